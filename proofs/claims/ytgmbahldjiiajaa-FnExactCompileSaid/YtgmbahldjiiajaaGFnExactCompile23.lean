import Derived.Test.YtgmbahldjiiajaaGFnExactCompile22
import Derived.Test.YtgmbahldjiiajaaGFnExactCompile16
import Derived.Test.YtgmbahldjiiajaaGFnExactCompile19
namespace Go.Proofs.Ytgmbahldjiiajaa.P
open Go.RowKit Go.Proofs.YtgmbahldjiiajaaW.PrintWords Go.Proofs.YtgmbahldjiiajaaW.PrintLast Go.Proofs.YtgmbahldjiiajaaW.PrintMore
set_option linter.unusedVariables false
set_option linter.unusedSimpArgs false
def twos (l : List PIt) : List S69 := l.map PIt.two
theorem twos_append (a b : List PIt) : twos (a ++ b) = twos a ++ twos b := List.map_append
theorem Zbx (a : List PIt) : (twos a).length = a.length := List.length_map _
theorem gHalf_len (at_ m b : Int) (far : Int × Int) : (gHalf at_ m b far).length ≤ 3 := by
 unfold gHalf
 split
 ·simp
 ·split <;> simp
theorem gCon_len (c : S95) (k : Int) (far : Int × Int) (lab free : Int) : (gCon c k far lab free).1.length ≤ 12 := by
 unfold gCon
 split
 ·unfold gMask
  have h1 := gHalf_len (16 + 8 * k + 4) (hi32 c.f1) (hi32 c.f2) far
  have h2 := gHalf_len (16 + 8 * k) (lo32 c.f1) (lo32 c.f2) far
  rw [List.length_append]
  omega
 ·split
  ·unfold gBet
   rw [List.length_append]
   split <;> split <;> simp [gLow, gHigh]
  ·simp
theorem gCons_len (far : Int × Int) (base : Int) : ∀ (cs : List S95) (k lab : Int), (gCons far base cs k lab).1.length ≤ 12 * cs.length
 | [], _, _ => by simp [gCons]
 | c :: cs, k, lab => by
  have h1 := gCon_len c k far lab (base + 1 + 2 * k)
  have h2 := gCons_len far base cs (k + 1) (gCon c k far lab (base + 1 + 2 * k)).2
  rw [gCons, List.length_append, List.length_cons]
  omega
theorem half_two (at_ m b far : Int) (t : Int × Int) (ht : t.2 = far) : spec_l5half.f at_ m b far = some (twos (gHalf at_ m b t)) := by
 subst ht
 unfold spec_l5half.f gHalf
 by_cases h : m = 0
 ·rw [if_pos h, if_pos h]; rfl
 ·rw [if_neg h, if_neg h]
  by_cases h2 : m = 4294967295
  ·simp only [Zbh.f, Zbs.f, Zak.f, Option.bind_some, if_pos h2]
   rw [if_pos (by simp)]
   rfl
  ·simp only [Zbh.f, Zbs.f, Zak.f, Option.bind_some, if_neg h2]
   rw [if_pos (by simp), if_pos (by simp)]
   rfl
theorem u64_div (a : Int) (h0 : 0 ≤ a) (h1 : a < 18446744073709551616) : IntKind.u64.wrap (Int.tdiv a 4294967296) % 4294967296 = hi32 a := by
 rw [Int.tdiv_eq_ediv_of_nonneg h0]
 have : IntKind.u64.wrap (a / 4294967296) = a / 4294967296 := by
  have e : IntKind.u64.wrap (a / 4294967296) = (a / 4294967296) % 18446744073709551616 := rfl
  rw [e]
  omega
 rw [this]
 rfl
theorem u64_mod (a : Int) (h0 : 0 ≤ a) : Int.tmod a 4294967296 % 4294967296 = lo32 a := by
 rw [Int.tmod_eq_emod_of_nonneg h0]
 unfold lo32
 omega
theorem con_two (c : S95) (hu : conU c) (hk : c.f0 = 0 ∨ c.f0 = 1 ∨ c.f0 = 2) (i : Int) (far : Int × Int) (lab free : Int) (hi : 0 ≤ i ∧ i < 1000000) (hf : -1000000000000 ≤ free ∧ free < 1000000000000) : Ev (fun k => Zbr.f k c.f0 c.f1 c.f2 i far.2 free) (twos (gCon c i far lab free).1) := by
 obtain ⟨⟨a0, a1⟩, b0, b1⟩ := hu
 have e1 : wrap64 (8 * i) = 8 * i := Zae (by omega) (by omega)
 have e2 : wrap64 (16 + 8 * i) = 16 + 8 * i := Zae (by omega) (by omega)
 have e3 : wrap64 (16 + 8 * i + 4) = 16 + 8 * i + 4 := Zae (by omega) (by omega)
 have e4 : wrap64 (free + 1) = free + 1 := Zae (by omega) (by omega)
 have da := u64_div c.f1 a0 a1
 have db := u64_div c.f2 b0 b1
 have ma := u64_mod c.f1 a0
 have mb := u64_mod c.f2 b0
 refine ev_mk 1 fun k hk1 => ?_
 obtain ⟨k, rfl⟩ : ∃ j, k = j + 1 := ⟨k - 1, by omega⟩
 unfold Zbr.f gCon
 simp only [e1, e2, e3, da, db, ma, mb]
 by_cases c1 : c.f0 = 1
 ·rw [if_pos c1, if_pos c1]
  refine bo (half_two _ _ _ _ far rfl) (bo (half_two _ _ _ _ far rfl) ?_)
  have h1 := gHalf_len (16 + 8 * i + 4) (hi32 c.f1) (hi32 c.f2) far
  have h2 := gHalf_len (16 + 8 * i) (lo32 c.f1) (lo32 c.f2) far
  rw [if_pos (by rw [Zbx, Zbx]; omega)]
  dsimp only
  unfold gMask
  rw [twos_append]
 ·rw [if_neg c1, if_neg c1]
  by_cases c0 : c.f0 = 0
  ·rw [if_pos c0, if_neg (by omega)]; rfl
  ·have c2 : c.f0 = 2 := by omega
   rw [if_neg c0, if_pos c2]
   dsimp only
   unfold gBet
   simp only [Zbr.j0, Zbh.f, Zbs.f, Zak.f, Zax.f, Option.bind_some, e4]
   by_cases ha : c.f1 = 0
   ·by_cases hb : c.f2 = 18446744073709551615
    ·simp [ha, hb, twos]
    ·simp [ha, hb, twos, gHigh, PIt.two, gLoad, gIns, gBr, Zal]
   ·by_cases hb : c.f2 = 18446744073709551615
    ·simp [ha, hb, twos, gLow, PIt.two, gLoad, gIns, gBr, Zal]
    ·simp [ha, hb, twos, gLow, gHigh, PIt.two, gLoad, gIns, gBr, Zal]
theorem gBody_last (l : List S65) (i : Nat) (lab free : Int) (h : i + 1 = l.length) : gBody (l.drop i) lab free = ((gCons (0, 0) free (Zao l (i : Int)).f0 0 lab).1 ++ [gIns 6 2147418112], (gCons (0, 0) free (Zao l (i : Int)).f0 0 lab).2) := by
 have h2 : i < l.length := by omega
 rw [drop_at l i h2, rdRI l i h2, List.drop_of_length_le (show l.length ≤ i + 1 by omega)]
 rfl
theorem gBody_more (l : List S65) (i : Nat) (lab free : Int) (h : i + 1 < l.length) : gBody (l.drop i) lab free = ((gCons (lab + 1, free) free (Zao l (i : Int)).f0 0 (lab + 1)).1 ++ ([gIns 6 2147418112, Zal (lab + 1, free)] ++ (gBody (l.drop (i + 1)) (gCons (lab + 1, free) free (Zao l (i : Int)).f0 0 (lab + 1)).2 (free + 13)).1), (gBody (l.drop (i + 1)) (gCons (lab + 1, free) free (Zao l (i : Int)).f0 0 (lab + 1)).2 (free + 13)).2) := by
 have h2 : i < l.length := by omega
 rw [drop_at l i h2, rdRI l i h2, drop_at l (i + 1) h]
 rfl
def okC (c : S95) : Prop := conU c ∧ (c.f0 = 0 ∨ c.f0 = 1 ∨ c.f0 = 2)
def okR (l : List S65) : Prop := ∀ r ∈ l, r.f0.length = 6 ∧ ∀ c ∈ r.f0, okC c
def okE (l : List S61) : Prop := ∀ e ∈ l, okR e.f2
theorem okR_six {l : List S65} (h : okR l) : six l := fun r hr => (h r hr).1
theorem okE_six {l : List S61} (h : okE l) : sixE l := fun e he => okR_six (h e he)
theorem okE_take {l : List S61} (h : okE l) (n : Nat) : okE (l.take n) := fun e he => h e (List.mem_of_mem_take he)
theorem okE_drop {l : List S61} (h : okE l) (n : Nat) : okE (l.drop n) := fun e he => h e (List.mem_of_mem_drop he)
theorem cons_two (l : List S65) (x1 : Int) (i : Nat) (hi : i < l.length) (hok : okR l) (far : Int × Int) (base : Int) (hb : 0 ≤ base ∧ base < 100000000000) (R : List S69) : ∀ (d j : Nat) (lab : Int) (acc : List S69), j + d = 6 → acc.length + 12 * d ≤ 2000000 →
  Ev (fun k => Zaz.l1 k l x1 (acc ++ twos (gCons far base ((l[i]).f0.drop j) (j : Int) lab).1) (i : Int) base far.2 6) R → Ev (fun k => Zaz.l1 k l x1 acc (i : Int) base far.2 (j : Int)) R
 | 0, j, lab, acc, hj, hl, h => by
  have h6 := (hok _ (List.getElem_mem hi)).1
  have e : (l[i]).f0.drop j = [] := List.drop_of_length_le (by omega)
  rw [e] at h
  obtain rfl : j = 6 := by omega
  simpa [gCons, twos] using h
 | d + 1, j, lab, acc, hj, hl, h => by
  have h6 := (hok _ (List.getElem_mem hi)).1
  have hjl : j < (l[i]).f0.length := by omega
  have hc := (hok _ (List.getElem_mem hi)).2 _ (List.getElem_mem hjl)
  have ej : (j : Int) + 1 = ((j + 1 : Nat) : Int) := rfl
  rw [drop_at _ j hjl, gCons, twos_append, ← List.append_assoc, ej] at h
  have hlen := gCon_len (l[i]).f0[j] (j : Int) far lab (base + 1 + 2 * (j : Int))
  have ih := cons_two l x1 i hi hok far base hb R d (j + 1) (gCon (l[i]).f0[j] (j : Int) far lab (base + 1 + 2 * (j : Int))).2 (acc ++ twos (gCon (l[i]).f0[j] (j : Int) far lab (base + 1 + 2 * (j : Int))).1) (by omega) (by rw [List.length_append, Zbx]; omega) h
  obtain ⟨K1, h1⟩ := ev_get (con_two _ hc.1 hc.2 (j : Int) far lab (base + 1 + 2 * (j : Int)) ⟨by omega, by omega⟩ ⟨by omega, by omega⟩)
  obtain ⟨K2, h2⟩ := ev_get ih
  refine ev_mk (K1 + K2 + 1) fun k hk => ?_
  obtain ⟨k, rfl⟩ : ∃ m, k = m + 1 := ⟨k - 1, by omega⟩
  have c1 : (j : Int) < 6 := by omega
  have c2 : (0 : Int) ≤ (i : Int) := by omega
  have c3 : (i : Int) < (l.length : Int) := by omega
  have c4 : (0 : Int) ≤ (j : Int) := by omega
  have c5 : (j : Int) < ((l[i]).f0.length : Int) := by omega
  have c6 : acc.length + (twos (gCon (l[i]).f0[j] (j : Int) far lab (base + 1 + 2 * (j : Int))).1).length < 5864062014805 := by rw [Zbx]; omega
  have k1 : K1 ≤ k := by omega
  have k2 : K2 ≤ k := by omega
  have w1 : wrap64 (2 * (j : Int)) = 2 * (j : Int) := Zae (by omega) (by omega)
  have w2 : wrap64 (base + 1) = base + 1 := Zae (by omega) (by omega)
  have w3 : wrap64 (base + 1 + 2 * (j : Int)) = base + 1 + 2 * (j : Int) := Zae (by omega) (by omega)
  have w4 : wrap64 ((j : Int) + 1) = ((j + 1 : Nat) : Int) := by rw [Zae (by omega) (by omega)]; rfl
  simp only [Zaz.l1, rdRI l i hi, rdCI _ j hjl, w1, w2, w3, w4]
  rw [if_pos c1, if_pos c2, if_pos c3, if_pos c4, if_pos c5, h1 k k1, Option.bind_some, if_pos c6]
  exact h2 k k2
theorem tail_last (l : List S65) (x1 i base : Int) (acc : List S69) (hl : acc.length ≤ 3000000) (k : Nat) : Zaz.l1 (k + 1) l x1 acc i base 0 6 = Zaz.l0 k l x1 (acc ++ twos [gIns 6 2147418112]) (wrap64 (i + 1)) := by
 have c : acc.length < 5864062014805 := by omega
 simp only [Zaz.l1, Zbs.f, Option.bind_some]
 rw [if_neg (by decide), if_pos c, if_pos trivial]
 rfl
theorem tail_more (l : List S65) (x1 i base far : Int) (t : Int × Int) (ht : t.2 = far) (hf : far ≠ 0) (acc : List S69) (hl : acc.length ≤ 3000000) (k : Nat) : Zaz.l1 (k + 1) l x1 acc i base far 6 = Zaz.l0 k l x1 (acc ++ twos [gIns 6 2147418112, Zal t]) (wrap64 (i + 1)) := by
 have c : acc.length < 5864062014805 := by omega
 have c2 : ∀ x : S69, (acc ++ [x]).length < 5864062014805 := fun x => by rw [List.length_append, List.length_singleton]; omega
 subst ht
 simp only [Zaz.l1, Zbs.f, Zax.f, Option.bind_some]
 rw [if_neg (by decide), if_pos c, if_neg hf, if_pos (c2 _), List.append_assoc]
 rfl
theorem body_two (l : List S65) (hok : okR l) (free : Int) (hf : 1 ≤ free ∧ free < 10000000000) (hl : l.length ≤ 10000) : ∀ (d i : Nat) (lab : Int) (acc : List S69), i + d = l.length → acc.length + 80 * d ≤ 1500000 →
  Ev (fun k => Zaz.l0 k l free acc (i : Int)) (acc ++ twos (gBody (l.drop i) lab (free + 13 * (i : Int))).1) := by
 intro d
 induction d with
 | zero =>
  intro i lab acc hi ha
  rw [List.drop_of_length_le (by omega)]
  exact ev_end fun k => by
   simp only [Zaz.l0]
   rw [if_neg (by omega)]
   simp [gBody, twos]
 | succ d ih =>
  intro i lab acc hi ha
  have hil : i < l.length := by omega
  have c1 : (i : Int) < (l.length : Int) := by omega
  have h6 := (hok _ (List.getElem_mem hil)).1
  have hb : 0 ≤ free + 13 * (i : Int) ∧ free + 13 * (i : Int) < 100000000000 := by omega
  have hne : free + 13 * (i : Int) ≠ 0 := by omega
  have w1 : wrap64 (13 * (i : Int)) = 13 * (i : Int) := Zae (by omega) (by omega)
  have w2 : wrap64 (free + 13 * (i : Int)) = free + 13 * (i : Int) := Zae (by omega) (by omega)
  have w3 : wrap64 ((l.length : Int) - 1) = (l.length : Int) - 1 := Zae (by omega) (by omega)
  have w4 : wrap64 ((i : Int) + 1) = ((i + 1 : Nat) : Int) := by rw [Zae (by omega) (by omega)]; rfl
  by_cases hd : i + 1 = l.length
  ·have cl : (i : Int) = (l.length : Int) - 1 := by omega
   have hlen := gCons_len (0, 0) (free + 13 * (i : Int)) (l[i]).f0 0 lab
   have hA : (acc ++ twos (gCons (0, 0) (free + 13 * (i : Int)) (l[i]).f0 0 lab).1).length ≤ 3000000 := by rw [List.length_append, Zbx]; omega
   have hB : (acc ++ twos (gCons (0, 0) (free + 13 * (i : Int)) (l[i]).f0 0 lab).1 ++ twos [gIns 6 2147418112]).length + 80 * d ≤ 1500000 := by rw [List.length_append, List.length_append, Zbx, Zbx, List.length_singleton]; omega
   have hend := ih (i + 1) lab _ (by omega) hB
   have hz : gBody (l.drop (i + 1)) lab (free + 13 * ((i + 1 : Nat) : Int)) = ([], lab) := by rw [List.drop_of_length_le (by omega)]; rfl
   rw [hz] at hend
   have hcs := cons_two l free i hil hok (0, 0) (free + 13 * (i : Int)) hb _ 6 0 lab acc (by omega) (by omega) (by
    rw [List.drop_zero]
    exact Zbe _ (fun k => tail_last l free (i : Int) (free + 13 * (i : Int)) _ hA k) (Ev.congr (fun k => by rw [w4]) hend))
   rw [gBody_last l i lab _ hd, rdRI l i hil]
   obtain ⟨K, hK⟩ := ev_get hcs
   refine ev_mk (K + 2) fun k hk => ?_
   obtain ⟨k, rfl⟩ : ∃ m, k = m + 2 := ⟨k - 2, by omega⟩
   have k1 : K ≤ k := by omega
   have h := hK k k1
   rw [show k + 2 = (k + 1) + 1 from rfl, Zaz.l0, w1, w2, w3, if_pos c1, if_pos cl, Zaz.j1]
   rw [show ((0 : Nat) : Int) = 0 from rfl] at h
   rw [h]
   simp [twos]
  ·have cl : ¬ (i : Int) = (l.length : Int) - 1 := by omega
   have hlen := gCons_len (lab + 1, free + 13 * (i : Int)) (free + 13 * (i : Int)) (l[i]).f0 0 (lab + 1)
   have hA : (acc ++ twos (gCons (lab + 1, free + 13 * (i : Int)) (free + 13 * (i : Int)) (l[i]).f0 0 (lab + 1)).1).length ≤ 3000000 := by rw [List.length_append, Zbx]; omega
   have hB : (acc ++ twos (gCons (lab + 1, free + 13 * (i : Int)) (free + 13 * (i : Int)) (l[i]).f0 0 (lab + 1)).1 ++ twos [gIns 6 2147418112, Zal (lab + 1, free + 13 * (i : Int))]).length + 80 * d ≤ 1500000 := by rw [List.length_append, List.length_append, Zbx, Zbx, List.length_cons, List.length_singleton]; omega
   have hend := ih (i + 1) (gCons (lab + 1, free + 13 * (i : Int)) (free + 13 * (i : Int)) (l[i]).f0 0 (lab + 1)).2 _ (by omega) hB
   have hcs := cons_two l free i hil hok (lab + 1, free + 13 * (i : Int)) (free + 13 * (i : Int)) hb _ 6 0 (lab + 1) acc (by omega) (by omega) (by
    rw [List.drop_zero]
    exact Zbe _ (fun k => tail_more l free (i : Int) (free + 13 * (i : Int)) _ (lab + 1, free + 13 * (i : Int)) rfl hne _ hA k) (Ev.congr (fun k => by rw [w4]) hend))
   rw [gBody_more l i lab _ (by omega), rdRI l i hil]
   obtain ⟨K, hK⟩ := ev_get hcs
   refine ev_mk (K + 2) fun k hk => ?_
   obtain ⟨k, rfl⟩ : ∃ m, k = m + 2 := ⟨k - 2, by omega⟩
   have k1 : K ≤ k := by omega
   have h := hK k k1
   rw [show k + 2 = (k + 1) + 1 from rfl, Zaz.l0, w1, w2, w3, if_pos c1, if_neg cl, Zaz.j1]
   rw [show ((0 : Nat) : Int) = 0 from rfl] at h
   have e : free + 13 * (i : Int) + 13 = free + 13 * ((i + 1 : Nat) : Int) := by omega
   rw [h, e]
   simp [twos]
def sumN : List S61 → Nat
 | [] => 0
 | e :: l => e.f2.length + sumN l
theorem needN_sum : ∀ l : List S61, Zad l = l.length + 13 * sumN l
 | [] => rfl
 | e :: l => by rw [Zad, sumN, needN_sum l, List.length_cons]; omega
theorem sumN_drop (l : List S61) (i : Nat) (h : i < l.length) : sumN (l.drop i) = (l[i]).f2.length + sumN (l.drop (i + 1)) := by
 rw [drop_at l i h, sumN]
theorem need_ev (l : List S61) (hl : Zad l ≤ 1000000) : Ev (fun k => Zbo.f k l) ((Zad l : Nat) : Int) := by
 have hs := needN_sum l
 have key : ∀ d i acc : Nat, i + d = l.length → acc + 13 * sumN (l.drop i) = Zad l → Ev (fun k => Zbo.l0 k l (acc : Int) (i : Int)) ((Zad l : Nat) : Int) := by
  intro d
  induction d with
  | zero =>
   intro i acc hi ha
   rw [List.drop_of_length_le (by omega)] at ha
   have e : acc = Zad l := by simpa [sumN] using ha
   rw [e]
   exact ev_end fun k => by
    simp only [Zbo.l0]
    rw [if_neg (by omega)]
  | succ d ih =>
   intro i acc hi ha
   have hil : i < l.length := by omega
   have c1 : (i : Int) < (l.length : Int) := by omega
   have c2 : (0 : Int) ≤ (i : Int) := by omega
   have hd := sumN_drop l i hil
   rw [hd] at ha
   have hih := ih (i + 1) (acc + 13 * (l[i]).f2.length) (by omega) (by omega)
   have b0 : (-9223372036854775808 : Int) ≤ 13 * ((l[i]).f2.length : Int) := by omega
   have b1 : 13 * ((l[i]).f2.length : Int) < 9223372036854775808 := by omega
   have b2 : (-9223372036854775808 : Int) ≤ (acc : Int) + 13 * ((l[i]).f2.length : Int) := by omega
   have b3 : (acc : Int) + 13 * ((l[i]).f2.length : Int) < 9223372036854775808 := by omega
   have b4 : (i : Int) + 1 < 9223372036854775808 := by omega
   have b5 : (-9223372036854775808 : Int) ≤ (i : Int) + 1 := by omega
   have e2 : (acc : Int) + 13 * ((l[i]).f2.length : Int) = ((acc + 13 * (l[i]).f2.length : Nat) : Int) := by omega
   have w1 : wrap64 (13 * ((l[i]).f2.length : Int)) = 13 * ((l[i]).f2.length : Int) := Zae b0 b1
   have w2 : wrap64 ((acc : Int) + 13 * ((l[i]).f2.length : Int)) = ((acc + 13 * (l[i]).f2.length : Nat) : Int) := (Zae b2 b3).trans e2
   have w3 : wrap64 ((i : Int) + 1) = ((i + 1 : Nat) : Int) := Zae b5 b4
   refine Zbe _ (fun k => ?_) hih
   simp only [Zbo.l0]
   rw [if_pos c1, if_pos c2, rdEI l i hil, w1, w2, w3]
 have h := key l.length 0 l.length (by omega) (by rw [List.drop_zero]; omega)
 exact h
theorem gBody_len : ∀ (l : List S65) (lab free : Int), six l → (gBody l lab free).1.length ≤ 80 * l.length
 | [], _, _, _ => by simp [gBody]
 | [r], lab, free, h => by
  have h1 := gCons_len (0, 0) free r.f0 0 lab
  rw [h r (by simp)] at h1
  rw [gBody]
  simp only [List.length_append, List.length_cons, List.length_nil]
  omega
 | r :: r2 :: rs, lab, free, h => by
  have h1 := gCons_len (lab + 1, free) free r.f0 0 (lab + 1)
  rw [h r (by simp)] at h1
  have h2 := gBody_len (r2 :: rs) (gCons (lab + 1, free) free r.f0 0 (lab + 1)).2 (free + 13) (six_tail h)
  rw [gBody]
  simp only [List.length_append, List.length_cons, List.length_nil] at h2 ⊢
  omega
theorem gTree_len : ∀ (n : Nat) (l : List S61) (lab free : Int), sixE l → 0 < l.length → l.length ≤ n → (gTree n l lab free).1.length + 2 ≤ 10 * Zad l
 | 0, l, lab, free, h, h0, hn => by omega
 | n + 1, l, lab, free, h, h0, hn => by
  rw [gTree]
  by_cases h1 : l.length = 1
  ·obtain ⟨e, rfl, he⟩ := rdE0 l h1
   rw [if_pos h1, he]
   have h2 := gBody_len e.f2 lab free (h e (by simp))
   simp only [Zad, List.length_cons]
   omega
  ·rw [if_neg h1]
   have hl1 : (l.take (l.length / 2)).length = l.length / 2 := by rw [List.length_take]; omega
   have hl2 : (l.drop (l.length / 2)).length = l.length - l.length / 2 := List.length_drop
   have ha := gTree_len n (l.take (l.length / 2)) (lab + 1) (free + 1) (sixE_take h _) (by omega) (by omega)
   have hb := gTree_len n (l.drop (l.length / 2)) (gTree n (l.take (l.length / 2)) (lab + 1) (free + 1)).2 (free + 1 + (Zad (l.take (l.length / 2)) : Int)) (sixE_drop h _) (by omega) (by omega)
   have hc := needN_cut l (l.length / 2)
   simp only [List.length_append, List.length_cons]
   omega
theorem needN_f2 (l : List S61) (h : l.length = 1) : (Zi l 0).f2.length * 13 + 1 = Zad l := by
 obtain ⟨e, rfl, he⟩ := rdE0 l h
 rw [he]
 simp only [Zad]
 omega
theorem tree_two : ∀ (n : Nat) (l : List S61) (lab free : Int), okE l → 0 < l.length → l.length ≤ n → Zad l ≤ 14000 → 1 ≤ free → free + (Zad l : Int) + (n : Int) < 1000000 → Ev (fun k => Zbi.f k l free) (twos (gTree n l lab free).1) := by
 intro n
 induction n with
 | zero => intro l lab free hok h0 hn; omega
 | succ n ih =>
  intro l lab free hok h0 hn hnd hf hf2
  rw [gTree]
  by_cases c1 : l.length = 1
  ·have h13 := needN_f2 l c1
   obtain ⟨e, rfl, he⟩ := rdE0 l c1
   rw [if_pos c1, he]
   rw [he] at h13
   have hb := body_two e.f2 (hok e (by simp)) free ⟨hf, by omega⟩ (by omega) e.f2.length 0 lab [] (by omega) (by simp only [List.length_nil]; omega)
   rw [List.drop_zero, show free + 13 * ((0 : Nat) : Int) = free by omega, List.nil_append] at hb
   have hlen := gBody_len e.f2 lab free (okR_six (hok e (by simp)))
   obtain ⟨K, hK⟩ := ev_get hb
   refine ev_mk (K + 1) fun k hk => ?_
   obtain ⟨k, rfl⟩ : ∃ m, k = m + 1 := ⟨k - 1, by omega⟩
   have h : Zaz.f k e.f2 free = some (twos (gBody e.f2 lab free).1) := hK k (by omega)
   have c2 : ∀ x : S69, [x].length + (twos (gBody e.f2 lab free).1).length < 5864062014805 := fun x => by rw [Zbx, List.length_singleton]; omega
   have c3 : (([e] : List S61).length : Int) = 1 := rfl
   have c4 : (0 : Int) < (([e] : List S61).length : Int) := by rw [c3]; decide
   simp only [Zbi.f, Zak.f, Option.bind_some, he]
   rw [if_pos c3, if_pos c4, h, Option.bind_some, if_pos (c2 _)]
   rfl
  ·rw [if_neg c1]
   have hl1 : (l.take (l.length / 2)).length = l.length / 2 := by rw [List.length_take]; omega
   have hl2 : (l.drop (l.length / 2)).length = l.length - l.length / 2 := List.length_drop
   have hc := needN_cut l (l.length / 2)
   have hln := needN_len l
   have t1 := gTree_len n (l.take (l.length / 2)) (lab + 1) (free + 1) (sixE_take (okE_six hok) _) (by omega) (by omega)
   have t2 := gTree_len n (l.drop (l.length / 2)) (gTree n (l.take (l.length / 2)) (lab + 1) (free + 1)).2 (free + 1 + (Zad (l.take (l.length / 2)) : Int)) (sixE_drop (okE_six hok) _) (by omega) (by omega)
   have n2 := needN_len (l.drop (l.length / 2))
   have ha := ih (l.take (l.length / 2)) (lab + 1) (free + 1) (okE_take hok _) (by omega) (by omega) (by omega) (by omega) (by omega)
   have hb := ih (l.drop (l.length / 2)) (gTree n (l.take (l.length / 2)) (lab + 1) (free + 1)).2 (free + 1 + (Zad (l.take (l.length / 2)) : Int)) (okE_drop hok _) (by omega) (by omega) (by omega) (by omega) (by omega)
   obtain ⟨K1, h1⟩ := ev_get ha
   obtain ⟨K2, h2⟩ := ev_get hb
   obtain ⟨K3, h3⟩ := ev_get (need_ev (l.take (l.length / 2)) (by omega))
   refine ev_mk (K1 + K2 + K3 + 1) fun k hk => ?_
   obtain ⟨k, rfl⟩ : ∃ m, k = m + 1 := ⟨k - 1, by omega⟩
   have q1 := h1 k (by omega)
   have q2 := h2 k (by omega)
   have q3 := h3 k (by omega)
   clear ha hb
   generalize (gTree n (l.drop (l.length / 2)) (gTree n (l.take (l.length / 2)) (lab + 1) (free + 1)).2 (free + 1 + (Zad (l.take (l.length / 2)) : Int))) = G2 at q2 t2 ⊢
   generalize (gTree n (l.take (l.length / 2)) (lab + 1) (free + 1)) = G1 at q1 t1 ⊢
   have d1 : ¬ ((l.length : Int) = 1) := by omega
   have d2 : (0 : Int) ≤ ((l.length / 2 : Nat) : Int) := by omega
   have d3 : ((l.length / 2 : Nat) : Int) < (l.length : Int) := by omega
   have d4 : ((l.length / 2 : Nat) : Int) ≤ (l.length : Int) := by omega
   have e1 : ∀ x : S69, [x].length + (twos G1.1).length < 5864062014805 := fun x => by rw [Zbx, List.length_singleton]; omega
   have e2 : ∀ x : S69, ([x] ++ twos G1.1).length < 5864062014805 := fun x => by rw [List.length_append, Zbx, List.length_singleton]; omega
   have e3 : ∀ x y : S69, ([x] ++ twos G1.1 ++ [y]).length + (twos G2.1).length < 5864062014805 := fun x y => by rw [List.length_append, List.length_append, Zbx, Zbx, List.length_singleton, List.length_singleton]; omega
   have u0 : (-9223372036854775808 : Int) ≤ (l.length : Int) / 2 := by omega
   have u1 : (l.length : Int) / 2 < 9223372036854775808 := by omega
   have u2 : (l.length : Int) / 2 = ((l.length / 2 : Nat) : Int) := by omega
   have u3 : (-9223372036854775808 : Int) ≤ free + 1 := by omega
   have u4 : free + 1 < 9223372036854775808 := by omega
   have u5 : (-9223372036854775808 : Int) ≤ free + 1 + (Zad (l.take (l.length / 2)) : Int) := by omega
   have u6 : free + 1 + (Zad (l.take (l.length / 2)) : Int) < 9223372036854775808 := by omega
   have w0 : wrap64 ((l.length : Int) / 2) = ((l.length / 2 : Nat) : Int) := (Zae u0 u1).trans u2
   have w1 : wrap64 (free + 1) = free + 1 := Zae u3 u4
   have w2 : wrap64 (free + 1 + (Zad (l.take (l.length / 2)) : Int)) = free + 1 + (Zad (l.take (l.length / 2)) : Int) := Zae u5 u6
   simp only [Zbi.f, Zak.f, Zax.f, Option.bind_some, w0, w1, Int.toNat_natCast]
   rw [if_neg d1, if_pos d2, if_pos d3, if_pos d4, q1, Option.bind_some, if_pos (e1 _), if_pos (e2 _), q3, Option.bind_some, w2, q2, Option.bind_some, if_pos (e3 _ _)]
   simp only [twos, List.map_cons, List.map_append, List.append_assoc, List.cons_append, List.nil_append, List.singleton_append]
   rfl
theorem rd_drop (l : List S61) (i m : Nat) : Zi (l.drop i) (m : Int) = Zi l ((i + m : Nat) : Int) := by
 simp only [Zi, List.getD_eq_getElem?_getD, Int.toNat_natCast, List.getElem?_drop]
theorem run_ev (l : List S61) (hl : l.length ≤ 1000000) (i : Nat) (hi : i < l.length) (x4 : List S69) (x5 a0 a1 a2 a3 a4 a5 : Int) (R : List S69) : ∀ (d m : Nat), i + m + d = l.length →
  Ev (fun k => Zbd.j2 k x4 x5 (i : Int) ((i + scanN (l.drop i) (Zi l (i : Int)).f0 d m : Nat) : Int) l a0 a1 a2 a3 a4 a5) R → Ev (fun k => Zbd.l1 k x4 x5 (i : Int) ((i + m : Nat) : Int) l a0 a1 a2 a3 a4 a5) R := by
 intro d
 induction d with
 | zero =>
  intro m hm h
  have c1 : ¬ (((i + m : Nat) : Int) < (l.length : Int)) := by omega
  refine Zbe _ (fun k => ?_) h
  simp only [Zbd.l1]
  rw [if_neg c1]
  rfl
 | succ d ih =>
  intro m hm h
  have c1 : ((i + m : Nat) : Int) < (l.length : Int) := by omega
  have c2 : (0 : Int) ≤ ((i + m : Nat) : Int) := by omega
  have c3 : (0 : Int) ≤ (i : Int) := by omega
  have c4 : (i : Int) < (l.length : Int) := by omega
  have c5 : m < (l.drop i).length := by rw [List.length_drop]; omega
  have b0 : (-9223372036854775808 : Int) ≤ ((i + m : Nat) : Int) + 1 := by omega
  have b1 : ((i + m : Nat) : Int) + 1 < 9223372036854775808 := by omega
  have e : ((i + m : Nat) : Int) + 1 = ((i + (m + 1) : Nat) : Int) := by omega
  rw [scanN, if_pos c5, rd_drop] at h
  have w : wrap64 (((i + m : Nat) : Int) + 1) = ((i + (m + 1) : Nat) : Int) := (Zae b0 b1).trans e
  by_cases hc : (Zi l ((i + m : Nat) : Int)).f0 = (Zi l (i : Int)).f0
  ·rw [if_pos hc] at h
   refine Zbe _ (fun k => ?_) (ih (m + 1) (by clear w; omega) h)
   simp only [Zbd.l1]
   rw [if_pos c1, if_pos c2, if_pos c3, if_pos c4, if_pos hc, w]
  ·rw [if_neg hc] at h
   refine Zbe _ (fun k => ?_) h
   simp only [Zbd.l1]
   rw [if_pos c1, if_pos c2, if_pos c3, if_pos c4, if_neg hc]
theorem run_start (l : List S61) (i : Nat) (hi : i < l.length) : scanN (l.drop i) (Zi l (i : Int)).f0 (l.length - i) 0 = runN (l.drop i) := by
 have e : l.length - i = (l.length - i - 1) + 1 := by omega
 have e0 : Zi (l.drop i) 0 = Zi l (i : Int) := rd_drop l i 0
 have e1 : Zi (l.drop i) ((0 : Nat) : Int) = Zi l (i : Int) := rd_drop l i 0
 rw [e, scanN, if_pos (by rw [List.length_drop]; omega), e1, if_pos rfl]
 unfold runN
 rw [e0, List.length_drop]
theorem gPol_len : ∀ (n : Nat) (l : List S61) (lab free : Int), sixE l → (gPol n l lab free).1.length ≤ 12 * Zad l
 | 0, l, lab, free, h => by simp [gPol]
 | n + 1, l, lab, free, h => by
  rw [gPol]
  by_cases h1 : l.length = 0
  ·rw [if_pos h1]; simp
  ·rw [if_neg h1]
   obtain ⟨r1, r2⟩ := runN_r l (by omega)
   have hl1 : (l.take (runN l)).length = runN l := by rw [List.length_take]; omega
   have ha := gTree_len (runN l) (l.take (runN l)) (lab + 1) (free + 1) (sixE_take h _) (by omega) (by omega)
   have hb := gPol_len n (l.drop (runN l)) (gTree (runN l) (l.take (runN l)) (lab + 1) (free + 1)).2 (free + 1 + (Zad (l.take (runN l)) : Int)) (sixE_drop h _)
   have hc := needN_cut l (runN l)
   have hn := needN_len (l.take (runN l))
   simp only [List.length_append, List.length_cons, List.length_nil]
   omega
theorem items_ev (l : List S61) (hok : okE l) (hnd : Zad l ≤ 14000) (a1 a4 : Int) : ∀ (n i : Nat) (lab free : Int) (acc : List S69), i ≤ l.length → (l.drop i).length ≤ n → 1 ≤ free → free + 2 * (Zad (l.drop i) : Int) ≤ 100000 → acc.length + 12 * Zad (l.drop i) ≤ 1000000 →
  Ev (fun k => Zbd.l0 k acc free (i : Int) l 0 a1 0 0 a4 0) (acc ++ twos ((gPol n (l.drop i) lab free).1 ++ [Zal (0, 0), ⟨0, a1, a4, (0, 0)⟩])) := by
 intro n
 induction n with
 | zero =>
  intro i lab free acc hi hn hf hf2 ha
  rw [List.length_drop] at hn
  have c1 : ¬ ((i : Int) < (l.length : Int)) := by omega
  have c2 : acc.length < 5864062014805 := by omega
  have c3 : ∀ x : S69, (acc ++ [x]).length < 5864062014805 := fun x => by rw [List.length_append, List.length_singleton]; omega
  exact ev_end fun k => by
   simp only [Zbd.l0, Zax.f, Option.bind_some]
   rw [if_neg c1, if_pos c2, if_pos (c3 _), List.append_assoc]
   rfl
 | succ n ih =>
  intro i lab free acc hi hn hf hf2 ha
  have hld : (l.drop i).length = l.length - i := List.length_drop
  by_cases hz : i = l.length
  ·have c1 : ¬ ((i : Int) < (l.length : Int)) := by omega
   have c2 : acc.length < 5864062014805 := by omega
   have c3 : ∀ x : S69, (acc ++ [x]).length < 5864062014805 := fun x => by rw [List.length_append, List.length_singleton]; omega
   have e : gPol (n + 1) (l.drop i) lab free = ([], lab) := by rw [gPol, if_pos (by omega)]
   rw [e]
   exact ev_end fun k => by
    simp only [Zbd.l0, Zax.f, Option.bind_some]
    rw [if_neg c1, if_pos c2, if_pos (c3 _), List.append_assoc]
    rfl
  ·have hil : i < l.length := by omega
   obtain ⟨r1, r2⟩ := runN_r (l.drop i) (by omega)
   obtain ⟨M, hM⟩ : ∃ M, runN (l.drop i) = M := ⟨_, rfl⟩
   have hst := run_start l i hil
   rw [hM] at r1 r2 hst
   have hcut := needN_cut (l.drop i) M
   have hdd : (l.drop i).drop M = l.drop (i + M) := List.drop_drop
   rw [hdd] at hcut
   have htl : ((l.drop i).take M).length = M := by rw [List.length_take]; omega
   have hnl := needN_len l
   have hnt := needN_len ((l.drop i).take M)
   have hcl := needN_cut l i
   have e0 : Zi (l.drop i) 0 = Zi l (i : Int) := rd_drop l i 0
   have hsl : (l.take (i + M)).drop i = (l.drop i).take M := by rw [List.drop_take]; congr 1; omega
   have htr := tree_two M ((l.drop i).take M) (lab + 1) (free + 1) (okE_take (okE_drop hok _) _) (by omega) (by omega) (by omega) (by omega) (by omega)
   have htlen := gTree_len M ((l.drop i).take M) (lab + 1) (free + 1) (sixE_take (sixE_drop (okE_six hok) _) _) (by omega) (by omega)
   have hne := need_ev ((l.drop i).take M) (by omega)
   have eg : gPol (n + 1) (l.drop i) lab free = ([gBr 2 21 (Zi l (i : Int)).f0 (lab + 1, free), gLoad 0] ++ ((gTree M ((l.drop i).take M) (lab + 1) (free + 1)).1 ++ (Zal (lab + 1, free) :: (gPol n (l.drop (i + M)) (gTree M ((l.drop i).take M) (lab + 1) (free + 1)).2 (free + 1 + (Zad ((l.drop i).take M) : Int))).1)), (gPol n (l.drop (i + M)) (gTree M ((l.drop i).take M) (lab + 1) (free + 1)).2 (free + 1 + (Zad ((l.drop i).take M) : Int))).2) := by
    rw [gPol, if_neg (by omega), hM, e0, hdd]
   rw [eg]
   dsimp only
   have hld2 : (l.drop (i + M)).length = l.length - (i + M) := List.length_drop
   generalize gTree M ((l.drop i).take M) (lab + 1) (free + 1) = G at htr htlen ⊢
   have hnx := ih (i + M) G.2 (free + 1 + (Zad ((l.drop i).take M) : Int)) (acc ++ twos [gBr 2 21 (Zi l (i : Int)).f0 (lab + 1, free), gLoad 0] ++ twos G.1 ++ twos [Zal (lab + 1, free)]) (by omega) (by omega) (by omega) (by omega) (by simp only [List.length_append, Zbx, List.length_cons, List.length_nil]; omega)
   obtain ⟨K1, h1⟩ := ev_get htr
   obtain ⟨K2, h2⟩ := ev_get hne
   obtain ⟨K3, h3⟩ := ev_get hnx
   have c1 : (i : Int) < (l.length : Int) := by omega
   have c2 : (0 : Int) ≤ (i : Int) := by omega
   have c3 : acc.length < 5864062014805 := by omega
   have c4 : ∀ x : S69, (acc ++ [x]).length < 5864062014805 := fun x => by rw [List.length_append, List.length_singleton]; omega
   have c5 : (i : Int) ≤ ((i + M : Nat) : Int) := by omega
   have c6 : ((i + M : Nat) : Int) ≤ (l.length : Int) := by omega
   have c7 : ∀ x y : S69, (acc ++ [x] ++ [y]).length + (twos G.1).length < 5864062014805 := fun x y => by simp only [List.length_append, List.length_singleton, Zbx]; omega
   have c8 : ∀ x y : S69, (acc ++ [x] ++ [y] ++ twos G.1).length < 5864062014805 := fun x y => by simp only [List.length_append, List.length_singleton, Zbx]; omega
   have u0 : (-9223372036854775808 : Int) ≤ free + 1 := by omega
   have u1 : free + 1 < 9223372036854775808 := by omega
   have u2 : (-9223372036854775808 : Int) ≤ 1 + (Zad ((l.drop i).take M) : Int) := by omega
   have u3 : 1 + (Zad ((l.drop i).take M) : Int) < 9223372036854775808 := by omega
   have u4 : (-9223372036854775808 : Int) ≤ free + (1 + (Zad ((l.drop i).take M) : Int)) := by omega
   have u5 : free + (1 + (Zad ((l.drop i).take M) : Int)) < 9223372036854775808 := by omega
   have u6 : free + (1 + (Zad ((l.drop i).take M) : Int)) = free + 1 + (Zad ((l.drop i).take M) : Int) := by omega
   have hj : Ev (fun k => Zbd.j2 k acc free (i : Int) ((i + M : Nat) : Int) l 0 a1 0 0 a4 0) (acc ++ twos [gBr 2 21 (Zi l (i : Int)).f0 (lab + 1, free), gLoad 0] ++ twos G.1 ++ twos [Zal (lab + 1, free)] ++ twos ((gPol n (l.drop (i + M)) G.2 (free + 1 + (Zad ((l.drop i).take M) : Int))).1 ++ [Zal (0, 0), ⟨0, a1, a4, (0, 0)⟩])) := by
    refine ev_mk (K1 + K2 + K3 + 1) fun k hk => ?_
    obtain ⟨k, rfl⟩ : ∃ m, k = m + 1 := ⟨k - 1, by omega⟩
    have q1 := h1 k (by omega)
    have q2 := h2 k (by omega)
    have q3 := h3 k (by omega)
    have w1 : wrap64 (free + 1) = free + 1 := Zae u0 u1
    have w2 : wrap64 (1 + (Zad ((l.drop i).take M) : Int)) = 1 + (Zad ((l.drop i).take M) : Int) := Zae u2 u3
    have w3 : wrap64 (free + (1 + (Zad ((l.drop i).take M) : Int))) = free + 1 + (Zad ((l.drop i).take M) : Int) := (Zae u4 u5).trans u6
    simp only [Zbd.j2, Zak.f, Zbh.f, Zbs.f, Zax.f, Option.bind_some, Int.toNat_natCast, w1]
    rw [if_pos c2, if_pos c1, if_pos c3, if_pos (c4 _), if_pos c5, if_pos c6, hsl, q1, Option.bind_some, if_pos (c7 _ _), if_pos (c8 _ _), q2, Option.bind_some, w2, w3]
    rw [← q3]
    simp only [twos, List.map_cons, List.map_nil, List.append_assoc, List.cons_append, List.nil_append, List.singleton_append]
    rfl
   have hrun := run_ev l (by omega) i hil acc free 0 a1 0 0 a4 0 _ (l.length - i) 0 (by omega) (by rw [hst]; exact hj)
   have heq : acc ++ twos ([gBr 2 21 (Zi l (i : Int)).f0 (lab + 1, free), gLoad 0] ++ (G.1 ++ (Zal (lab + 1, free) :: (gPol n (l.drop (i + M)) G.2 (free + 1 + (Zad ((l.drop i).take M) : Int))).1)) ++ [Zal (0, 0), ⟨0, a1, a4, (0, 0)⟩]) = acc ++ twos [gBr 2 21 (Zi l (i : Int)).f0 (lab + 1, free), gLoad 0] ++ twos G.1 ++ twos [Zal (lab + 1, free)] ++ twos ((gPol n (l.drop (i + M)) G.2 (free + 1 + (Zad ((l.drop i).take M) : Int))).1 ++ [Zal (0, 0), ⟨0, a1, a4, (0, 0)⟩]) := by
    simp only [twos, List.map_cons, List.map_nil, List.map_append, List.append_assoc, List.cons_append, List.nil_append, List.singleton_append]
   rw [heq]
   refine Zbe _ (fun k => ?_) hrun
   simp only [Zbd.l0]
   rw [if_pos c1]
   rfl
theorem items_two (l : List S61) (hok : okE l) (hnd : Zad l ≤ 14000) (h0 : l.length ≠ 0) : Ev (fun k => Zbd.f k l) (twos (gItems l)) := by
 have h := items_ev l hok hnd 6 2147483648 l.length 0 0 1 (twos [gLoad 4]) (by omega) (by rw [List.drop_zero]; omega) (by omega) (by rw [List.drop_zero]; omega) (by rw [List.drop_zero, Zbx, List.length_singleton]; omega)
 rw [List.drop_zero, ← twos_append] at h
 have c : ¬ ((l.length : Int) = 0) := by omega
 refine Ev.congr (fun k => ?_) h
 simp only [Zbd.f, Zbs.f, Zbh.f, Option.bind_some]
 rw [if_neg c]
 rfl
def labs : List PIt → List (Int × Int)
 | [] => []
 | p :: l => if p.kd = 4 then p.t :: labs l else labs l
theorem labs_append : ∀ (a b : List PIt), labs (a ++ b) = labs a ++ labs b
 | [], b => rfl
 | p :: a, b => by
  rw [List.cons_append, labs, labs, labs_append a b]
  split
  ·rfl
  ·rfl
def Res (D : List (Int × Int)) (t : Int × Int) : Prop := D.find? (fun q => q.2 == t.2) = some t
theorem Res.mem {D : List (Int × Int)} {t : Int × Int} (h : Res D t) : t ∈ D := List.mem_of_find?_eq_some h
theorem Res.head (D : List (Int × Int)) (t : Int × Int) : Res (t :: D) t := by unfold Res; rw [List.find?_cons, beq_self_eq_true]
theorem Res.skip {D : List (Int × Int)} {t : Int × Int} (h : Res D t) : ∀ (X : List (Int × Int)), (∀ q ∈ X, q.2 ≠ t.2) → Res (X ++ D) t
 | [], _ => h
 | q :: X, hx => by
  have ih := Res.skip h X (fun r hr => hx r (List.mem_cons_of_mem _ hr))
  unfold Res at ih ⊢
  rw [List.cons_append, List.find?_cons, beq_eq_false_iff_ne.2 (hx q (by simp))]
  exact ih
def WFC (D : List (Int × Int)) : List PIt → Prop
 | [] => True
 | p :: l => okI p.one = true ∧ (if p.kd = 4 then (∀ q ∈ labs l ++ D, q.1 ≠ p.t.1) else (p.kd = 0 ∧ p.t = (0, 0)) ∨ Res (labs l ++ D) p.t) ∧ WFC D l
theorem WFC_append (D : List (Int × Int)) : ∀ (a b : List PIt), WFC (labs b ++ D) a → WFC D b → WFC D (a ++ b)
 | [], b, _, h => h
 | p :: a, b, h, hb => by
  obtain ⟨h1, h2, h3⟩ := h
  rw [List.cons_append]
  refine ⟨h1, ?_, WFC_append D a b h3 hb⟩
  rw [labs_append, List.append_assoc]
  exact h2
def Dist : List (Int × Int) → Prop
 | [] => True
 | p :: l => (∀ q ∈ l, q.1 ≠ p.1) ∧ Dist l
theorem WFC_dist : ∀ l : List PIt, WFC [] l → Dist (labs l)
 | [], _ => trivial
 | p :: l, h => by
  obtain ⟨_, h2, h3⟩ := h
  have ih := WFC_dist l h3
  rw [List.append_nil] at h2
  rw [labs]
  by_cases c : p.kd = 4
  ·rw [if_pos c] at h2 ⊢
   exact ⟨h2, ih⟩
  ·rw [if_neg c]
   exact ih
theorem WFC_tgt : ∀ l : List PIt, WFC [] l → ∀ p ∈ l, p.t = (0, 0) ∨ p.t ∈ labs l
 | [], _, p, hp => by simp at hp
 | q :: l, h, p, hp => by
  obtain ⟨_, h2, h3⟩ := h
  rw [List.append_nil] at h2
  have sub : ∀ t ∈ labs l, t ∈ labs (q :: l) := fun t ht => by
   rw [labs]
   split
   ·exact List.mem_cons_of_mem _ ht
   ·exact ht
  rcases List.mem_cons.1 hp with rfl | hp
  ·by_cases c : p.kd = 4
   ·right
    rw [labs, if_pos c]
    exact List.mem_cons_self
   ·rw [if_neg c] at h2
    rcases h2 with h2 | h2
    ·exact .inl h2.2
    ·exact .inr (sub _ h2.mem)
  ·exact (WFC_tgt l h3 p hp).imp id (sub _)
theorem WFC_tail {p : PIt} {l : List PIt} (h : WFC [] (p :: l)) : WFC [] l := h.2.2
def m1 (M : List ((Int × Int) × Int)) : List (Int × Int) := M.map fun q => (q.1.1, q.2)
def m2 (M : List ((Int × Int) × Int)) : List (Int × Int) := M.map fun q => (q.1.2, q.2)
theorem lkp_cons (p : Int × Int) (l : List (Int × Int)) (x : Int) : lkp (p :: l) x = if p.1 = x then some p.2 else lkp l x := by
 unfold lkp
 rw [List.find?_cons]
 by_cases h : p.1 = x
 ·rw [if_pos h, beq_iff_eq.2 h]; rfl
 ·rw [if_neg h, beq_eq_false_iff_ne.2 h]
theorem lkp_both : ∀ (M : List ((Int × Int) × Int)) (t : Int × Int), Dist (M.map Prod.fst) → Res (M.map Prod.fst) t → ∃ v, lkp (m1 M) t.1 = some v ∧ lkp (m2 M) t.2 = some v
 | [], t, _, h => by unfold Res at h; simp at h
 | q :: M, t, hd, h => by
  obtain ⟨h1, h2⟩ := hd
  unfold m1 m2
  unfold Res at h
  rw [List.map_cons, List.map_cons, lkp_cons, lkp_cons]
  rw [List.map_cons, List.find?_cons] at h
  by_cases e : q.1.2 = t.2
  ·rw [beq_iff_eq.2 e] at h
   have e2 : q.1 = t := Option.some.inj h
   exact ⟨q.2, by rw [if_pos (by rw [← e2])], by rw [if_pos e]⟩
  ·rw [beq_eq_false_iff_ne.2 e] at h
   have ht : Res (M.map Prod.fst) t := h
   have n1 := h1 t ht.mem
   obtain ⟨v, v1, v2⟩ := lkp_both M t h2 ht
   exact ⟨v, by rw [if_neg (fun x => n1 x.symm)]; exact v1, by rw [if_neg e]; exact v2⟩
theorem lkp_none1 : ∀ (M : List (Int × Int)) (x : Int), (∀ q ∈ M, q.1 ≠ x) → lkp M x = none
 | [], _, _ => rfl
 | q :: M, x, h => by
  rw [lkp_cons, if_neg (h q (by simp))]
  exact lkp_none1 M x (fun r hr => h r (by simp [hr]))
theorem rd_one (L : List PIt) (i : Nat) (h : i < L.length) : Zah (ones L) (i : Int) = (L[i]).one := by
 rw [rdItem_eq _ i (by unfold ones; rw [List.length_map]; exact h)]
 simp [ones]
theorem rd_two (L : List PIt) (i : Nat) (h : i < L.length) : Zah (twos L) (i : Int) = (L[i]).two := by
 rw [rdItem_eq _ i (by rw [Zbx]; exact h)]
 simp [twos]
theorem WFC_drop (L : List PIt) : ∀ i, WFC [] L → WFC [] (L.drop i)
 | 0, h => h
 | i + 1, h => by
  have ih := WFC_drop L i h
  by_cases c : i < L.length
  ·rw [List.drop_eq_getElem_cons c] at ih
   exact WFC_tail ih
  ·rw [List.drop_of_length_le (by omega)]
   trivial
theorem layN_both (L : List PIt) (hW : WFC [] L) : ∀ (i : Nat), i ≤ L.length → ∀ (M : List ((Int × Int) × Int)) (n : Int) (ps : List (List S52)), M.map Prod.fst = labs (L.drop i) →
  ∃ r, layN (ones L) i (m1 M) n ps = some r ∧ layM (twos L) i (m2 M) n ps = some r := by
 intro i
 induction i with
 | zero => intro _ M n ps _; exact ⟨(n, ps), rfl, rfl⟩
 | succ i ih =>
  intro hi M n ps hM
  have hil : i < L.length := by omega
  have hw := WFC_drop L i hW
  have hdi := WFC_dist _ (WFC_drop L (i + 1) hW)
  rw [List.drop_eq_getElem_cons hil] at hw
  obtain ⟨w1, w2, w3⟩ := hw
  rw [List.append_nil, ← hM] at w2
  rw [← hM] at hdi
  have hlab : labs (L.drop i) = if (L[i]).kd = 4 then (L[i]).t :: labs (L.drop (i + 1)) else labs (L.drop (i + 1)) := by rw [List.drop_eq_getElem_cons hil, labs]
  simp only [layN, layM, rd_one L i hil, rd_two L i hil]
  obtain ⟨p, hp⟩ : ∃ p, L[i] = p := ⟨_, rfl⟩
  rw [hp] at w1 w2 hlab ⊢
  have w1' : okI p.two = true := w1
  rw [if_pos w1, if_pos w1']
  have f1 : p.one.f0 = p.kd := rfl
  have f2 : p.two.f0 = p.kd := rfl
  have g1 : p.one.f2 = p.t.1 := rfl
  have g2 : p.two.f2 = p.t.2 := rfl
  have em : ∀ d, madeN p.two d = madeN p.one d := fun d => rfl
  rw [f1, f2, g1, g2]
  by_cases c4 : p.kd = 4
  ·rw [if_pos c4] at w2 hlab ⊢
   rw [if_pos c4]
   have n1 : lkp (m1 M) p.t.1 = none := lkp_none1 _ _ (fun q hq => by
    obtain ⟨r, hr, rfl⟩ := List.mem_map.1 hq
    exact w2 r.1 (List.mem_map_of_mem hr))
   rw [n1]
   exact ih (by omega) ((p.t, n) :: M) n ([] :: ps) (by rw [List.map_cons, hM, hlab])
  ·rw [if_neg c4] at w2 hlab ⊢
   rw [if_neg c4]
   by_cases c0 : p.kd = 0
   ·rw [if_pos c0, if_pos c0]
    simp only [em]
    exact ih (by omega) M _ _ (by rw [hM, hlab])
   ·rw [if_neg c0, if_neg c0]
    obtain ⟨v, v1, v2⟩ := lkp_both M p.t hdi (w2.resolve_left (fun h => c0 h.1))
    rw [v1, v2]
    simp only [em]
    exact ih (by omega) M _ _ (by rw [hM, hlab])
def InL (a b c : Int) (l : List (Int × Int)) : Prop := ∀ q ∈ l, a < q.1 ∧ q.1 ≤ b ∧ c ≤ q.2
def OutL (a b : Int) (l : List (Int × Int)) : Prop := ∀ q ∈ l, q.1 ≤ a ∨ b < q.1
theorem InL.wider {a b c a' b' c' : Int} {l : List (Int × Int)} (h : InL a b c l) (h1 : a' ≤ a) (h2 : b ≤ b') (h3 : c' ≤ c) : InL a' b' c' l := fun q hq => by
 have := h q hq
 omega
theorem InL.app {a b c : Int} {l m : List (Int × Int)} (h : InL a b c l) (k : InL a b c m) : InL a b c (l ++ m) := fun q hq => (List.mem_append.1 hq).elim (h q) (k q)
theorem InL.nil (a b c : Int) : InL a b c [] := fun q hq => by simp at hq
theorem OutL.app {a b : Int} {l m : List (Int × Int)} (h : OutL a b l) (k : OutL a b m) : OutL a b (l ++ m) := fun q hq => (List.mem_append.1 hq).elim (h q) (k q)
theorem OutL.shrink {a b a' b' : Int} {l : List (Int × Int)} (h : OutL a b l) (h1 : a ≤ a') (h2 : b' ≤ b) : OutL a' b' l := fun q hq => by
 have := h q hq
 omega
theorem InL.out {a b c a' b' : Int} {l : List (Int × Int)} (h : InL a b c l) (h1 : b ≤ a' ∨ b' ≤ a) : OutL a' b' l := fun q hq => by
 have := h q hq
 omega
theorem Res.over {D X : List (Int × Int)} {t : Int × Int} {a b c : Int} (h : Res D t) (hx : InL a b c X) (hc : t.2 < c) : Res (X ++ D) t := h.skip X (fun q hq => by
 have := hx q hq
 omega)
theorem okI_ins (c x : Int) (h : sortN c = 1 ∨ sortN c = 4) : okI (gIns c x).one = true := by
 unfold okI gIns PIt.one
 simp only [if_true]
 exact decide_eq_true h
theorem okI_br (kd c x : Int) (t : Int × Int) (hk : kd = 1 ∨ kd = 2) (hc : jumpC c) : okI (gBr kd c x t).one = true := by
 unfold okI gBr PIt.one
 dsimp only
 rw [if_neg (by omega), if_pos hk]
 exact decide_eq_true hc
theorem okI_here (t : Int × Int) : okI (Zal t).one = true := by
 unfold okI Zal PIt.one
 dsimp only
 rw [if_neg (by decide), if_neg (by decide)]
 exact decide_eq_true (Or.inr rfl)
theorem wf_ins {D : List (Int × Int)} {l : List PIt} (c x : Int) (h : sortN c = 1 ∨ sortN c = 4) (hl : WFC D l) : WFC D (gIns c x :: l) := ⟨okI_ins c x h, by rw [if_neg (show ¬ (gIns c x).kd = 4 from (by decide : ¬ (0 : Int) = 4))]; exact .inl ⟨rfl, rfl⟩, hl⟩
theorem wf_load {D : List (Int × Int)} {l : List PIt} (n : Int) (hl : WFC D l) : WFC D (gLoad n :: l) := wf_ins _ _ (by decide) hl
theorem wf_br {D : List (Int × Int)} {l : List PIt} (kd c x : Int) (t : Int × Int) (hk : kd = 1 ∨ kd = 2) (hc : jumpC c) (ht : Res (labs l ++ D) t) (hl : WFC D l) : WFC D (gBr kd c x t :: l) :=
 ⟨okI_br kd c x t hk hc, by rw [if_neg (show ¬ (gBr kd c x t).kd = 4 from (by show ¬ kd = 4; omega))]; exact .inr ht, hl⟩
theorem wf_here {D : List (Int × Int)} {l : List PIt} (t : Int × Int) (ht : ∀ q ∈ labs l ++ D, q.1 ≠ t.1) (hl : WFC D l) : WFC D (Zal t :: l) :=
 ⟨okI_here t, by rw [if_pos (show (Zal t).kd = 4 from rfl)]; exact ht, hl⟩
theorem labs_ins (c x : Int) (l : List PIt) : labs (gIns c x :: l) = labs l := by rw [labs, if_neg (show ¬ (gIns c x).kd = 4 from (by decide : ¬ (0 : Int) = 4))]
theorem labs_load (n : Int) (l : List PIt) : labs (gLoad n :: l) = labs l := labs_ins _ _ l
theorem labs_br (kd c x : Int) (t : Int × Int) (l : List PIt) (hk : kd ≠ 4) : labs (gBr kd c x t :: l) = labs l := by rw [labs, if_neg (show ¬ (gBr kd c x t).kd = 4 from hk)]
theorem labs_here (t : Int × Int) (l : List PIt) : labs (Zal t :: l) = t :: labs l := by rw [labs, if_pos (show (Zal t).kd = 4 from rfl)]; rfl
theorem half_wf (at_ m b : Int) (far : Int × Int) (D : List (Int × Int)) (hf : Res D far) : WFC D (gHalf at_ m b far) ∧ labs (gHalf at_ m b far) = [] := by
 have hb : WFC D [gBr 2 21 b far] := wf_br _ _ _ _ (.inr rfl) (.inl rfl) (by simpa [labs] using hf) trivial
 have hlb : labs [gBr 2 21 b far] = [] := by rw [labs_br _ _ _ _ _ (by decide)]; rfl
 unfold gHalf
 split
 ·exact ⟨trivial, rfl⟩
 ·split
  ·exact ⟨wf_load _ hb, by rw [labs_load]; exact hlb⟩
  ·exact ⟨wf_load _ (wf_ins _ _ (by decide) hb), by rw [labs_load]; exact (labs_ins _ _ _).trans hlb⟩
theorem mask_wf (m b low : Int) (far : Int × Int) (D : List (Int × Int)) (hf : Res D far) : WFC D (gMask m b low far) ∧ labs (gMask m b low far) = [] := by
 obtain ⟨h1, h2⟩ := half_wf (low + 4) (hi32 m) (hi32 b) far D hf
 obtain ⟨h3, h4⟩ := half_wf low (lo32 m) (lo32 b) far D hf
 unfold gMask
 exact ⟨WFC_append D _ _ (by rw [h4]; exact h1) h3, by rw [labs_append, h2, h4]; rfl⟩
theorem res_p {D : List (Int × Int)} {far p : Int × Int} (hf : Res D far) (hn : p.2 ≠ far.2) : Res ([p] ++ D) far := hf.skip [p] (fun q hq => by obtain rfl := List.mem_singleton.1 hq; exact hn)
theorem low_wf (a low : Int) (far p : Int × Int) (D : List (Int × Int)) (hf : Res D far) (hp : ∀ q ∈ D, q.1 ≠ p.1) (hn : p.2 ≠ far.2) : WFC D (gLow a low far p) ∧ labs (gLow a low far p) = [p] := by
 have hfp := res_p hf hn
 have l0 : labs [Zal p] = [p] := labs_here p []
 have w0 : WFC D [Zal p] := wf_here p (by simpa [labs] using hp) trivial
 have l1 : labs [gBr 2 53 (lo32 a) far, Zal p] = [p] := by rw [labs_br _ _ _ _ _ (by decide), l0]
 have w1 : WFC D [gBr 2 53 (lo32 a) far, Zal p] := wf_br _ _ _ _ (.inr rfl) (.inr (.inr (.inl rfl))) (by rw [l0]; exact hfp) w0
 have l2 : labs [gLoad low, gBr 2 53 (lo32 a) far, Zal p] = [p] := by rw [labs_load, l1]
 have w2 : WFC D [gLoad low, gBr 2 53 (lo32 a) far, Zal p] := wf_load _ w1
 have l3 : labs [gBr 2 21 (hi32 a) far, gLoad low, gBr 2 53 (lo32 a) far, Zal p] = [p] := by rw [labs_br _ _ _ _ _ (by decide), l2]
 have w3 : WFC D [gBr 2 21 (hi32 a) far, gLoad low, gBr 2 53 (lo32 a) far, Zal p] := wf_br _ _ _ _ (.inr rfl) (.inl rfl) (by rw [l2]; exact hfp) w2
 have l4 : labs [gBr 1 37 (hi32 a) p, gBr 2 21 (hi32 a) far, gLoad low, gBr 2 53 (lo32 a) far, Zal p] = [p] := by rw [labs_br _ _ _ _ _ (by decide), l3]
 have w4 : WFC D [gBr 1 37 (hi32 a) p, gBr 2 21 (hi32 a) far, gLoad low, gBr 2 53 (lo32 a) far, Zal p] := wf_br _ _ _ _ (.inl rfl) (.inr (.inl rfl)) (by rw [l3]; exact Res.head _ _) w3
 exact ⟨wf_load _ w4, by unfold gLow; rw [labs_load, l4]⟩
theorem high_wf (b low : Int) (far p : Int × Int) (D : List (Int × Int)) (hf : Res D far) (hp : ∀ q ∈ D, q.1 ≠ p.1) (hn : p.2 ≠ far.2) : WFC D (gHigh b low far p) ∧ labs (gHigh b low far p) = [p] := by
 have hfp := res_p hf hn
 have l0 : labs [Zal p] = [p] := labs_here p []
 have w0 : WFC D [Zal p] := wf_here p (by simpa [labs] using hp) trivial
 have l1 : labs [gBr 1 37 (lo32 b) far, Zal p] = [p] := by rw [labs_br _ _ _ _ _ (by decide), l0]
 have w1 : WFC D [gBr 1 37 (lo32 b) far, Zal p] := wf_br _ _ _ _ (.inl rfl) (.inr (.inl rfl)) (by rw [l0]; exact hfp) w0
 have l2 : labs [gLoad low, gBr 1 37 (lo32 b) far, Zal p] = [p] := by rw [labs_load, l1]
 have w2 : WFC D [gLoad low, gBr 1 37 (lo32 b) far, Zal p] := wf_load _ w1
 have l3 : labs [gBr 2 21 (hi32 b) p, gLoad low, gBr 1 37 (lo32 b) far, Zal p] = [p] := by rw [labs_br _ _ _ _ _ (by decide), l2]
 have w3 : WFC D [gBr 2 21 (hi32 b) p, gLoad low, gBr 1 37 (lo32 b) far, Zal p] := wf_br _ _ _ _ (.inr rfl) (.inl rfl) (by rw [l2]; exact Res.head _ _) w2
 have l4 : labs [gBr 1 37 (hi32 b) far, gBr 2 21 (hi32 b) p, gLoad low, gBr 1 37 (lo32 b) far, Zal p] = [p] := by rw [labs_br _ _ _ _ _ (by decide), l3]
 have w4 : WFC D [gBr 1 37 (hi32 b) far, gBr 2 21 (hi32 b) p, gLoad low, gBr 1 37 (lo32 b) far, Zal p] := wf_br _ _ _ _ (.inl rfl) (.inr (.inl rfl)) (by rw [l3]; exact hfp) w3
 exact ⟨wf_load _ w4, by unfold gHigh; rw [labs_load, l4]⟩
theorem out_ne {a b : Int} {D : List (Int × Int)} (h : OutL a b D) (p : Int × Int) (h1 : a < p.1 ∧ p.1 ≤ b) : ∀ q ∈ D, q.1 ≠ p.1 := fun q hq => by
 have := h q hq
 omega
theorem bet_wf (a b low : Int) (far : Int × Int) (lab free : Int) (D : List (Int × Int)) (hf : Res D far) (hn : far.2 < free) (hD : OutL lab (gBetL a b lab) D) : WFC D (gBet a b low far lab free) ∧ InL lab (gBetL a b lab) free (labs (gBet a b low far lab free)) := by
 unfold gBet
 unfold gBetL gBet1 at hD ⊢
 by_cases ha : a = 0 <;> by_cases hb : b = 18446744073709551615
 ·simp only [ha, hb, if_true] at hD ⊢
  exact ⟨trivial, InL.nil _ _ _⟩
 ·simp only [ha, hb, if_true, if_false, List.nil_append] at hD ⊢
  obtain ⟨w, l⟩ := high_wf b low far (lab + 1, free + 1) D hf (out_ne hD (lab + 1, free + 1) (by dsimp only; omega)) (by dsimp only; omega)
  exact ⟨w, by rw [l]; intro q hq; obtain rfl := List.mem_singleton.1 hq; dsimp only; omega⟩
 ·simp only [ha, hb, if_true, if_false, List.append_nil] at hD ⊢
  obtain ⟨w, l⟩ := low_wf a low far (lab + 1, free) D hf (out_ne hD (lab + 1, free) (by dsimp only; omega)) (by dsimp only; omega)
  exact ⟨w, by rw [l]; intro q hq; obtain rfl := List.mem_singleton.1 hq; dsimp only; omega⟩
 ·simp only [ha, hb, if_true, if_false] at hD ⊢
  obtain ⟨w, l⟩ := high_wf b low far (lab + 1 + 1, free + 1) D hf (out_ne hD (lab + 1 + 1, free + 1) (by dsimp only; omega)) (by dsimp only; omega)
  obtain ⟨w2, l2⟩ := low_wf a low far (lab + 1, free) ([(lab + 1 + 1, free + 1)] ++ D) (res_p hf (by dsimp only; omega)) (fun q hq => by
   rcases List.mem_append.1 hq with hq | hq
   ·obtain rfl := List.mem_singleton.1 hq
    dsimp only
    omega
   ·exact out_ne hD (lab + 1, free) (by dsimp only; omega) q hq) (by dsimp only; omega)
  refine ⟨WFC_append D _ _ (by rw [l]; exact w2) w, ?_⟩
  rw [labs_append, l, l2]
  intro q hq
  simp only [List.singleton_append, List.mem_cons, List.not_mem_nil, or_false] at hq
  rcases hq with rfl | rfl <;> dsimp only <;> omega
theorem con_wf (c : S95) (k : Int) (far : Int × Int) (lab free : Int) (D : List (Int × Int)) (hf : Res D far) (hn : far.2 < free) (hD : OutL lab (gCon c k far lab free).2 D) : WFC D (gCon c k far lab free).1 ∧ InL lab (gCon c k far lab free).2 free (labs (gCon c k far lab free).1) := by
 unfold gCon at hD ⊢
 by_cases c1 : c.f0 = 1
 ·rw [if_pos c1] at hD ⊢
  obtain ⟨w, l⟩ := mask_wf c.f1 c.f2 (16 + 8 * k) far D hf
  exact ⟨w, by rw [l]; exact InL.nil _ _ _⟩
 ·rw [if_neg c1] at hD ⊢
  by_cases c2 : c.f0 = 2
  ·rw [if_pos c2] at hD ⊢
   exact bet_wf _ _ _ _ _ _ D hf hn hD
  ·rw [if_neg c2] at hD ⊢
   exact ⟨trivial, InL.nil _ _ _⟩
theorem cons_wf (far : Int × Int) (base : Int) : ∀ (cs : List S95) (k lab : Int) (D : List (Int × Int)), Res D far → far.2 < base + 1 + 2 * k → OutL lab (gCons far base cs k lab).2 D →
  WFC D (gCons far base cs k lab).1 ∧ InL lab (gCons far base cs k lab).2 (base + 1 + 2 * k) (labs (gCons far base cs k lab).1)
 | [], _, _, D, _, _, _ => ⟨trivial, InL.nil _ _ _⟩
 | c :: cs, k, lab, D, hf, hn, hD => by
  have r1 := gCon_r c k far lab (base + 1 + 2 * k)
  have r2 := gCons_r far base cs (k + 1) (gCon c k far lab (base + 1 + 2 * k)).2
  rw [gCons] at hD ⊢
  generalize hG : gCon c k far lab (base + 1 + 2 * k) = G at hD r1 r2 ⊢
  obtain ⟨w2, l2⟩ := cons_wf far base cs (k + 1) G.2 D hf (by omega) (hD.shrink (by omega) (by omega))
  have h1 := con_wf c k far lab (base + 1 + 2 * k) (labs (gCons far base cs (k + 1) G.2).1 ++ D) (hf.over l2 (by omega)) (by omega) (by
   rw [hG]
   exact (InL.out (a' := lab) (b' := G.2) l2 (.inr (Int.le_refl _))).app (hD.shrink (by omega) (by omega)))
  rw [hG] at h1
  obtain ⟨w1, l1⟩ := h1
  refine ⟨WFC_append D _ _ w1 w2, ?_⟩
  rw [labs_append]
  exact (l1.wider (by omega) (by omega) (by omega)).app (l2.wider (by omega) (by omega) (by omega))
theorem wf_ret {D : List (Int × Int)} (x : Int) {l : List PIt} (hl : WFC D l) : WFC D (gIns 6 x :: l) := wf_ins _ _ (by decide) hl
theorem body_wf : ∀ (l : List S65) (lab free : Int) (D : List (Int × Int)), six l → 1 ≤ free → Res D (0, 0) → OutL lab (gBody l lab free).2 D →
  WFC D (gBody l lab free).1 ∧ InL lab (gBody l lab free).2 free (labs (gBody l lab free).1)
 | [], _, _, D, _, _, _, _ => ⟨trivial, InL.nil _ _ _⟩
 | [r], lab, free, D, h6, hp, h0, hD => by
  have e6 := h6 r (by simp)
  have r1 := gCons_r (0, 0) free r.f0 0 lab
  rw [gBody] at hD ⊢
  have hw := cons_wf (0, 0) free r.f0 0 lab D h0 (by dsimp only; omega) (hD.shrink (by omega) (by omega))
  have lr : labs [gIns 6 2147418112] = [] := labs_ins _ _ _
  refine ⟨WFC_append D _ _ (by rw [lr]; exact hw.1) (wf_ret _ trivial), ?_⟩
  rw [labs_append, lr, List.append_nil]
  exact hw.2.wider (by omega) (by omega) (by omega)
 | r :: r2 :: rs, lab, free, D, h6, hp, h0, hD => by
  have e6 := h6 r (by simp)
  have r1 := gCons_r (lab + 1, free) free r.f0 0 (lab + 1)
  have rb := gBody_r (r2 :: rs) (gCons (lab + 1, free) free r.f0 0 (lab + 1)).2 (free + 13) (six_tail h6)
  have ih := body_wf (r2 :: rs) (gCons (lab + 1, free) free r.f0 0 (lab + 1)).2 (free + 13)
  have hcw := cons_wf (lab + 1, free) free r.f0 0 (lab + 1)
  rw [gBody] at hD ⊢
  generalize gCons (lab + 1, free) free r.f0 0 (lab + 1) = C at hD r1 rb ih hcw ⊢
  obtain ⟨w2, l2⟩ := ih D (six_tail h6) (by omega) h0 (hD.shrink (by omega) (by omega))
  generalize gBody (r2 :: rs) C.2 (free + 13) = B at hD rb w2 l2 ⊢
  have wh : WFC D (Zal (lab + 1, free) :: B.1) := wf_here _ (fun q hq => by
   rcases List.mem_append.1 hq with hq | hq
   ·have := l2 q hq
    dsimp only
    omega
   ·have := hD q hq
    dsimp only
    omega) w2
  have lh : labs (Zal (lab + 1, free) :: B.1) = (lab + 1, free) :: labs B.1 := labs_here _ _
  have wr : WFC D (gIns 6 2147418112 :: Zal (lab + 1, free) :: B.1) := wf_ret _ wh
  have lr : labs (gIns 6 2147418112 :: Zal (lab + 1, free) :: B.1) = (lab + 1, free) :: labs B.1 := (labs_ins _ _ _).trans lh
  obtain ⟨w1, l1⟩ := hcw (((lab + 1, free) :: labs B.1) ++ D) (Res.head _ _) (by dsimp only; omega) (fun q hq => by
   simp only [List.cons_append, List.mem_cons, List.mem_append] at hq
   rcases hq with rfl | hq | hq
   ·dsimp only; omega
   ·have := l2 q hq; omega
   ·have := hD q hq; omega)
  refine ⟨WFC_append D _ _ (by rw [show [gIns 6 2147418112, Zal (lab + 1, free)] ++ B.1 = gIns 6 2147418112 :: Zal (lab + 1, free) :: B.1 from rfl, lr]; exact w1) wr, ?_⟩
  rw [labs_append, show [gIns 6 2147418112, Zal (lab + 1, free)] ++ B.1 = gIns 6 2147418112 :: Zal (lab + 1, free) :: B.1 from rfl, lr]
  intro q hq
  simp only [List.mem_cons, List.mem_append] at hq
  rcases hq with hq | rfl | hq
  ·have := l1 q hq; omega
  ·dsimp only; omega
  ·have := l2 q hq; omega
theorem tree_wf : ∀ (n : Nat) (l : List S61) (lab free : Int) (D : List (Int × Int)), sixE l → 0 < l.length → l.length ≤ n → 1 ≤ free → Res D (0, 0) → OutL lab (gTree n l lab free).2 D →
  WFC D (gTree n l lab free).1 ∧ InL lab (gTree n l lab free).2 free (labs (gTree n l lab free).1)
 | 0, l, lab, free, D, h, h0, hn, hp, hz, hD => by omega
 | n + 1, l, lab, free, D, h, h0, hn, hp, hz, hD => by
  rw [gTree] at hD ⊢
  by_cases c1 : l.length = 1
  ·obtain ⟨e, rfl, he⟩ := rdE0 l c1
   rw [if_pos c1, he] at hD ⊢
   obtain ⟨w, li⟩ := body_wf e.f2 lab free D (h e (by simp)) hp hz hD
   refine ⟨wf_br _ _ _ _ (.inr rfl) (.inl rfl) (hz.over li (by dsimp only; omega)) w, ?_⟩
   dsimp only
   rw [labs_br _ _ _ _ _ (by decide)]
   exact li
  ·rw [if_neg c1] at hD ⊢
   have hl1 : (l.take (l.length / 2)).length = l.length / 2 := by rw [List.length_take]; omega
   have hl2 : (l.drop (l.length / 2)).length = l.length - l.length / 2 := List.length_drop
   have ra := gTree_r n (l.take (l.length / 2)) (lab + 1) (free + 1) (sixE_take h _) (by omega) (by omega)
   have ha := tree_wf n (l.take (l.length / 2)) (lab + 1) (free + 1)
   generalize gTree n (l.take (l.length / 2)) (lab + 1) (free + 1) = A at hD ra ha ⊢
   have rb := gTree_r n (l.drop (l.length / 2)) A.2 (free + 1 + (Zad (l.take (l.length / 2)) : Int)) (sixE_drop h _) (by omega) (by omega)
   have hb := tree_wf n (l.drop (l.length / 2)) A.2 (free + 1 + (Zad (l.take (l.length / 2)) : Int)) D (sixE_drop h _) (by omega) (by omega) (by omega) hz
   generalize gTree n (l.drop (l.length / 2)) A.2 (free + 1 + (Zad (l.take (l.length / 2)) : Int)) = B at hD rb hb ⊢
   dsimp only at hD ⊢
   obtain ⟨w2, l2⟩ := hb (hD.shrink (by omega) (by omega))
   have wh : WFC D (Zal (lab + 1, free) :: B.1) := wf_here _ (fun q hq => by
    rcases List.mem_append.1 hq with hq | hq
    ·have := l2 q hq
     dsimp only
     omega
    ·have := hD q hq
     dsimp only
     omega) w2
   have lh : labs (Zal (lab + 1, free) :: B.1) = (lab + 1, free) :: labs B.1 := labs_here _ _
   have hl2' : InL lab B.2 free (labs (Zal (lab + 1, free) :: B.1)) := by
    rw [lh]
    intro q hq
    rcases List.mem_cons.1 hq with rfl | hq
    ·dsimp only; omega
    ·have := l2 q hq; omega
   obtain ⟨w1, l1⟩ := ha (labs (Zal (lab + 1, free) :: B.1) ++ D) (sixE_take h _) (by omega) (by omega) (by omega) (hz.over hl2' (by dsimp only; omega)) (by
    rw [lh]
    intro q hq
    simp only [List.cons_append, List.mem_cons, List.mem_append] at hq
    rcases hq with rfl | hq | hq
    ·dsimp only; omega
    ·have := l2 q hq; omega
    ·have := hD q hq; omega)
   have wa := WFC_append D _ _ w1 wh
   have la : labs (A.1 ++ Zal (lab + 1, free) :: B.1) = labs A.1 ++ ((lab + 1, free) :: labs B.1) := by rw [labs_append, lh]
   refine ⟨wf_br _ _ _ _ (.inl rfl) (.inr (.inr (.inl rfl))) ?_ wa, ?_⟩
   ·rw [la, List.append_assoc]
    exact (Res.head _ _).over l1 (by dsimp only; omega)
   ·rw [labs_br _ _ _ _ _ (by decide), la]
    intro q hq
    simp only [List.mem_cons, List.mem_append] at hq
    rcases hq with hq | rfl | hq
    ·have := l1 q hq; omega
    ·dsimp only; omega
    ·have := l2 q hq; omega
theorem pol_wf : ∀ (n : Nat) (l : List S61) (lab free : Int) (D : List (Int × Int)), sixE l → 1 ≤ free → Res D (0, 0) → OutL lab (gPol n l lab free).2 D →
  WFC D (gPol n l lab free).1 ∧ InL lab (gPol n l lab free).2 free (labs (gPol n l lab free).1)
 | 0, l, lab, free, D, h, hp, hz, hD => ⟨trivial, InL.nil _ _ _⟩
 | n + 1, l, lab, free, D, h, hp, hz, hD => by
  rw [gPol] at hD ⊢
  by_cases c1 : l.length = 0
  ·rw [if_pos c1]
   exact ⟨trivial, InL.nil _ _ _⟩
  ·rw [if_neg c1] at hD ⊢
   obtain ⟨r1, r2⟩ := runN_r l (by omega)
   have hl1 : (l.take (runN l)).length = runN l := by rw [List.length_take]; omega
   have ra := gTree_r (runN l) (l.take (runN l)) (lab + 1) (free + 1) (sixE_take h _) (by omega) (by omega)
   have ha := tree_wf (runN l) (l.take (runN l)) (lab + 1) (free + 1)
   generalize gTree (runN l) (l.take (runN l)) (lab + 1) (free + 1) = A at hD ra ha ⊢
   have rb := gPol_r n (l.drop (runN l)) A.2 (free + 1 + (Zad (l.take (runN l)) : Int)) (sixE_drop h _)
   have hb := pol_wf n (l.drop (runN l)) A.2 (free + 1 + (Zad (l.take (runN l)) : Int)) D (sixE_drop h _) (by omega) hz
   generalize gPol n (l.drop (runN l)) A.2 (free + 1 + (Zad (l.take (runN l)) : Int)) = B at hD rb hb ⊢
   dsimp only at hD ⊢
   obtain ⟨w2, l2⟩ := hb (hD.shrink (by omega) (by omega))
   have wh : WFC D (Zal (lab + 1, free) :: B.1) := wf_here _ (fun q hq => by
    rcases List.mem_append.1 hq with hq | hq
    ·have := l2 q hq
     dsimp only
     omega
    ·have := hD q hq
     dsimp only
     omega) w2
   have lh : labs (Zal (lab + 1, free) :: B.1) = (lab + 1, free) :: labs B.1 := labs_here _ _
   have hl2' : InL lab B.2 free (labs (Zal (lab + 1, free) :: B.1)) := by
    rw [lh]
    intro q hq
    rcases List.mem_cons.1 hq with rfl | hq
    ·dsimp only; omega
    ·have := l2 q hq; omega
   obtain ⟨w1, l1⟩ := ha (labs (Zal (lab + 1, free) :: B.1) ++ D) (sixE_take h _) (by omega) (by omega) (by omega) (hz.over hl2' (by dsimp only; omega)) (by
    rw [lh]
    intro q hq
    simp only [List.cons_append, List.mem_cons, List.mem_append] at hq
    rcases hq with rfl | hq | hq
    ·dsimp only; omega
    ·have := l2 q hq; omega
    ·have := hD q hq; omega)
   have wa := WFC_append D _ _ w1 wh
   have la : labs (A.1 ++ Zal (lab + 1, free) :: B.1) = labs A.1 ++ ((lab + 1, free) :: labs B.1) := by rw [labs_append, lh]
   have e : [gBr 2 21 (Zi l 0).f0 (lab + 1, free), gLoad 0] ++ (A.1 ++ Zal (lab + 1, free) :: B.1) = gBr 2 21 (Zi l 0).f0 (lab + 1, free) :: gLoad 0 :: (A.1 ++ Zal (lab + 1, free) :: B.1) := rfl
   rw [e]
   refine ⟨wf_br _ _ _ _ (.inr rfl) (.inl rfl) ?_ (wf_load _ wa), ?_⟩
   ·rw [labs_load, la, List.append_assoc]
    exact (Res.head _ _).over l1 (by dsimp only; omega)
   ·rw [labs_br _ _ _ _ _ (by decide), labs_load, la]
    intro q hq
    simp only [List.mem_cons, List.mem_append] at hq
    rcases hq with hq | rfl | hq
    ·have := l1 q hq; omega
    ·dsimp only; omega
    ·have := l2 q hq; omega
theorem items_wf (l : List S61) (h : sixE l) : WFC [] (gItems l) := by
 have l0 : labs [Zal (0, 0), gIns 6 2147483648] = [(0, 0)] := by rw [labs_here, labs_ins]; rfl
 have w0 : WFC [] [Zal (0, 0), gIns 6 2147483648] := wf_here _ (by rw [labs_ins]; simp [labs]) (wf_ret _ trivial)
 have hr := gPol_r l.length l 0 1 h
 obtain ⟨w, _⟩ := pol_wf l.length l 0 1 [(0, 0)] h (by omega) (Res.head _ _) (fun q hq => by obtain rfl := List.mem_singleton.1 hq; left; dsimp only; omega)
 exact wf_load _ (WFC_append [] _ _ (by rw [l0]; exact w) w0)
theorem items_tgt (l : List S61) (h : sixE l) (hn : Zad l ≤ 14000) : ∀ p ∈ gItems l, 0 ≤ p.t.1 ∧ p.t.1 ≤ 14000 := by
 have l0 : labs [Zal (0, 0), gIns 6 2147483648] = [(0, 0)] := by rw [labs_here, labs_ins]; rfl
 have hr := gPol_r l.length l 0 1 h
 have hw := items_wf l h
 obtain ⟨_, hi⟩ := pol_wf l.length l 0 1 [(0, 0)] h (by omega) (Res.head _ _) (fun q hq => by obtain rfl := List.mem_singleton.1 hq; left; dsimp only; omega)
 intro p hp
 have ht := WFC_tgt _ hw p hp
 have hl : labs (gItems l) = labs (gPol l.length l 0 1).1 ++ [(0, 0)] := by
  unfold gItems
  rw [labs_load, labs_append, l0]
 rcases ht with ht | ht
 ·rw [ht]; dsimp only; omega
 ·rw [hl] at ht
  rcases List.mem_append.1 ht with ht | ht
  ·have := hi _ ht
   omega
  ·have e := List.mem_singleton.1 ht
   rw [e]; dsimp only; omega
end Go.Proofs.Ytgmbahldjiiajaa.P
