import Derived.Test.YtdipinclchkhjaaGFnCover8
import Derived.Lib.BitFns
import Derived.Test.YtdipinclchkhjaaGFnCover3
import Derived.Test.YtdipinclchkhjaaGFnCover1
namespace Go.Proofs.Ytdipinclchkhjaa.P
open Go.RowKit Go.Proofs.YtdipinclchkhjaaW.PrintWords Go.Proofs.YtdipinclchkhjaaW.PrintLast Go.Proofs.YtdipinclchkhjaaW.PrintMore
set_option linter.unusedVariables false
set_option linter.unusedSimpArgs false
/-! How many bits: by bytes. -/
def N8 (a b c d e f g h : Nat) : Nat := a + 256 * (b + 256 * (c + 256 * (d + 256 * (e + 256 * (f + 256 * (g + 256 * h))))))
theorem and_split (p q a b : Nat) (hp : p < 256) (ha : a < 256) : (p + 256 * q) &&& (a + 256 * b) = (p &&& a) + 256 * (q &&& b) := by
  have h1 := Nat.div_add_mod ((p + 256 * q) &&& (a + 256 * b)) (2 ^ 8)
  rw [Nat.and_div_two_pow, Nat.and_mod_two_pow] at h1
  have e1 : (p + 256 * q) / 2 ^ 8 = q := by omega
  have e2 : (a + 256 * b) / 2 ^ 8 = b := by omega
  have e3 : (p + 256 * q) % 2 ^ 8 = p := by omega
  have e4 : (a + 256 * b) % 2 ^ 8 = a := by omega
  rw [e1, e2, e3, e4] at h1
  omega
theorem N8_and {a b c d e f g h a' b' c' d' e' f' g' h' : Nat} (ha : a < 256) (hb : b < 256) (hc : c < 256) (hd : d < 256) (he : e < 256) (hf : f < 256) (hg : g < 256)
    (ha' : a' < 256) (hb' : b' < 256) (hc' : c' < 256) (hd' : d' < 256) (he' : e' < 256) (hf' : f' < 256) (hg' : g' < 256) :
    N8 a b c d e f g h &&& N8 a' b' c' d' e' f' g' h' = N8 (a &&& a') (b &&& b') (c &&& c') (d &&& d') (e &&& e') (f &&& f') (g &&& g') (h &&& h') := by
  unfold N8
  rw [and_split _ _ _ _ ha ha', and_split _ _ _ _ hb hb', and_split _ _ _ _ hc hc', and_split _ _ _ _ hd hd', and_split _ _ _ _ he he', and_split _ _ _ _ hf hf', and_split _ _ _ _ hg hg']
theorem and_lt0 (x y : Nat) (h : x < 18446744073709551616) : x &&& y < 18446744073709551616 := Nat.lt_of_le_of_lt Nat.and_le_left h
def sA (b : Nat) : Nat := ((b / 2) &&& 85) + (b &&& 85)
def sB (b : Nat) : Nat := ((b / 4) &&& 51) + (b &&& 51)
theorem byteA : ∀ b : Fin 256, ∀ t : Fin 2, (b.val / 2 + 128 * t.val) &&& 85 = (b.val / 2) &&& 85 := by decide +kernel
theorem byteB : ∀ b : Fin 256, ∀ t : Fin 4, (b.val / 4 + 64 * t.val) &&& 51 = (b.val / 4) &&& 51 := by decide +kernel
theorem byteL : ∀ b : Fin 256, sA b.val < 256 ∧ sB (sA b.val) ≤ 68 ∧ sB (sA b.val) % 16 ≤ 4 ∧ (sB (sA b.val) / 16 + sB (sA b.val)) % 16 = Lib.popAux 8 b.val ∧ Lib.popAux 8 b.val ≤ 8 := by decide +kernel
theorem N8_add (a b c d e f g h a' b' c' d' e' f' g' h' : Nat) : N8 a b c d e f g h + N8 a' b' c' d' e' f' g' h' = N8 (a + a') (b + b') (c + c') (d + d') (e + e') (f + f') (g + g') (h + h') := by
  unfold N8; omega
theorem N8_half {a b c d e f g h : Nat} : N8 a b c d e f g h / 2 = N8 (a / 2 + 128 * (b % 2)) (b / 2 + 128 * (c % 2)) (c / 2 + 128 * (d % 2)) (d / 2 + 128 * (e % 2)) (e / 2 + 128 * (f % 2)) (f / 2 + 128 * (g % 2)) (g / 2 + 128 * (h % 2)) (h / 2 + 128 * 0) := by
  unfold N8; omega
theorem N8_quarter {a b c d e f g h : Nat} : N8 a b c d e f g h / 4 = N8 (a / 4 + 64 * (b % 4)) (b / 4 + 64 * (c % 4)) (c / 4 + 64 * (d % 4)) (d / 4 + 64 * (e % 4)) (e / 4 + 64 * (f % 4)) (f / 4 + 64 * (g % 4)) (g / 4 + 64 * (h % 4)) (h / 4 + 64 * 0) := by
  unfold N8; omega
theorem N8_nibble {a b c d e f g h : Nat} : N8 a b c d e f g h / 16 = N8 (a / 16 + 16 * (b % 16)) (b / 16 + 16 * (c % 16)) (c / 16 + 16 * (d % 16)) (d / 16 + 16 * (e % 16)) (e / 16 + 16 * (f % 16)) (f / 16 + 16 * (g % 16)) (g / 16 + 16 * (h % 16)) (h / 16 + 16 * 0) := by
  unfold N8; omega
theorem bA {b t : Nat} (hb : b < 256) (ht : t < 2) : (b / 2 + 128 * t) &&& 85 = (b / 2) &&& 85 := byteA ⟨b, hb⟩ ⟨t, ht⟩
theorem bB {b t : Nat} (hb : b < 256) (ht : t < 4) : (b / 4 + 64 * t) &&& 51 = (b / 4) &&& 51 := byteB ⟨b, hb⟩ ⟨t, ht⟩
theorem bL {b : Nat} (hb : b < 256) : sA b < 256 ∧ sB (sA b) ≤ 68 ∧ sB (sA b) % 16 ≤ 4 ∧ (sB (sA b) / 16 + sB (sA b)) % 16 = Lib.popAux 8 b ∧ Lib.popAux 8 b ≤ 8 := byteL ⟨b, hb⟩
theorem stepA {a b c d e f g h : Nat} (ha : a < 256) (hb : b < 256) (hc : c < 256) (hd : d < 256) (he : e < 256) (hf : f < 256) (hg : g < 256) (hh : h < 256) :
    ((N8 a b c d e f g h / 2) &&& 6148914691236517205) + (N8 a b c d e f g h &&& 6148914691236517205) = N8 (sA a) (sA b) (sA c) (sA d) (sA e) (sA f) (sA g) (sA h) := by
  have hm : (6148914691236517205 : Nat) = N8 85 85 85 85 85 85 85 85 := by decide
  rw [hm, N8_half, N8_and (by omega) (by omega) (by omega) (by omega) (by omega) (by omega) (by omega) (by omega) (by omega) (by omega) (by omega) (by omega) (by omega) (by omega),
    N8_and ha hb hc hd he hf hg (by omega) (by omega) (by omega) (by omega) (by omega) (by omega) (by omega), N8_add,
    bA ha (by omega), bA hb (by omega), bA hc (by omega), bA hd (by omega), bA he (by omega), bA hf (by omega), bA hg (by omega), bA hh (by omega)]
  rfl
theorem stepB {a b c d e f g h : Nat} (ha : a < 256) (hb : b < 256) (hc : c < 256) (hd : d < 256) (he : e < 256) (hf : f < 256) (hg : g < 256) (hh : h < 256) :
    ((N8 a b c d e f g h / 4) &&& 3689348814741910323) + (N8 a b c d e f g h &&& 3689348814741910323) = N8 (sB a) (sB b) (sB c) (sB d) (sB e) (sB f) (sB g) (sB h) := by
  have hm : (3689348814741910323 : Nat) = N8 51 51 51 51 51 51 51 51 := by decide
  rw [hm, N8_quarter, N8_and (by omega) (by omega) (by omega) (by omega) (by omega) (by omega) (by omega) (by omega) (by omega) (by omega) (by omega) (by omega) (by omega) (by omega),
    N8_and ha hb hc hd he hf hg (by omega) (by omega) (by omega) (by omega) (by omega) (by omega) (by omega), N8_add,
    bB ha (by omega), bB hb (by omega), bB hc (by omega), bB hd (by omega), bB he (by omega), bB hf (by omega), bB hg (by omega), bB hh (by omega)]
  rfl
theorem and15 (x : Nat) : x &&& 15 = x % 16 := Nat.and_two_pow_sub_one_eq_mod x 4
theorem bC {b t : Nat} (h1 : b ≤ 68) : (b / 16 + 16 * t + b) &&& 15 = (b / 16 + b) % 16 := by rw [and15]; omega
theorem stepC {a b c d e f g h : Nat} (ha : a ≤ 68) (hb : b ≤ 68) (hc : c ≤ 68) (hd : d ≤ 68) (he : e ≤ 68) (hf : f ≤ 68) (hg : g ≤ 68) (hh : h ≤ 68)
    (hb' : b % 16 ≤ 4) (hc' : c % 16 ≤ 4) (hd' : d % 16 ≤ 4) (he' : e % 16 ≤ 4) (hf' : f % 16 ≤ 4) (hg' : g % 16 ≤ 4) (hh' : h % 16 ≤ 4) :
    (N8 a b c d e f g h / 16 + N8 a b c d e f g h) &&& 1085102592571150095 = N8 ((a / 16 + a) % 16) ((b / 16 + b) % 16) ((c / 16 + c) % 16) ((d / 16 + d) % 16) ((e / 16 + e) % 16) ((f / 16 + f) % 16) ((g / 16 + g) % 16) ((h / 16 + h) % 16) := by
  have hm : (1085102592571150095 : Nat) = N8 15 15 15 15 15 15 15 15 := by decide
  rw [hm, N8_nibble, N8_add, N8_and (by omega) (by omega) (by omega) (by omega) (by omega) (by omega) (by omega) (by omega) (by omega) (by omega) (by omega) (by omega) (by omega) (by omega),
    bC ha, bC hb, bC hc, bC hd, bC he, bC hf, bC hg, bC hh]
theorem N8_lt {a b c d e f g h : Nat} (ha : a < 256) (hb : b < 256) (hc : c < 256) (hd : d < 256) (he : e < 256) (hf : f < 256) (hg : g < 256) (hh : h < 256) : N8 a b c d e f g h < 18446744073709551616 := by
  unfold N8; omega
theorem N8_lt68 {a b c d e f g h : Nat} (ha : a ≤ 68) (hb : b ≤ 68) (hc : c ≤ 68) (hd : d ≤ 68) (he : e ≤ 68) (hf : f ≤ 68) (hg : g ≤ 68) (hh : h ≤ 68) : N8 a b c d e f g h < 9223372036854775808 := by
  unfold N8; omega
theorem N8_of (x : Nat) : x = N8 (x % 256) (x / 256 % 256) (x / 65536 % 256) (x / 16777216 % 256) (x / 4294967296 % 256) (x / 1099511627776 % 256) (x / 281474976710656 % 256) (x / 72057594037927936) := by
  unfold N8; omega
theorem pop_more : ∀ (m n x : Nat), Lib.popAux (m + n) x = Lib.popAux m x + Lib.popAux n (x / 2 ^ m)
  | 0, n, x => by simp [Lib.popAux]
  | m + 1, n, x => by
    rw [show m + 1 + n = (m + n) + 1 by omega, Lib.popAux, Lib.popAux, pop_more m n (x / 2), Nat.div_div_eq_div_mul, Nat.pow_succ, Nat.mul_comm 2]
    omega
theorem pop_mod : ∀ (m x : Nat), Lib.popAux m (x % 2 ^ m) = Lib.popAux m x
  | 0, x => rfl
  | m + 1, x => by
    rw [Lib.popAux, Lib.popAux, ← pop_mod m (x / 2)]
    have h1 : x % 2 ^ (m + 1) % 2 = x % 2 := by rw [Nat.pow_succ, Nat.mul_comm]; exact Nat.mod_mul_right_mod x 2 (2 ^ m)
    have h2 : x % 2 ^ (m + 1) / 2 = x / 2 % 2 ^ m := by rw [Nat.pow_succ, Nat.mul_comm]; exact Nat.mod_mul_right_div_self x 2 (2 ^ m)
    rw [h1, h2]
theorem pop8 (n x : Nat) : Lib.popAux (8 + n) x = Lib.popAux 8 (x % 256) + Lib.popAux n (x / 256) := by
  rw [pop_more 8 n x, ← pop_mod 8 x]
theorem pop64 (x : Nat) : Lib.popAux 64 x = Lib.popAux 8 (x % 256) + Lib.popAux 8 (x / 256 % 256) + Lib.popAux 8 (x / 65536 % 256) + Lib.popAux 8 (x / 16777216 % 256) + Lib.popAux 8 (x / 4294967296 % 256) + Lib.popAux 8 (x / 1099511627776 % 256) + Lib.popAux 8 (x / 281474976710656 % 256) + Lib.popAux 8 (x / 72057594037927936) := by
  have e1 := pop8 56 x
  have e2 := pop8 48 (x / 256)
  have e3 := pop8 40 (x / 256 / 256)
  have e4 := pop8 32 (x / 256 / 256 / 256)
  have e5 := pop8 24 (x / 256 / 256 / 256 / 256)
  have e6 := pop8 16 (x / 256 / 256 / 256 / 256 / 256)
  have e7 := pop8 8 (x / 256 / 256 / 256 / 256 / 256 / 256)
  simp only [Nat.reduceAdd, Nat.div_div_eq_div_mul, Nat.reduceMul] at e1 e2 e3 e4 e5 e6 e7
  omega
theorem and_i64 (a b : Nat) (ha : a < 9223372036854775808) (hb : b < 9223372036854775808) : bits .and .i64 (a : Int) (b : Int) = ((a &&& b : Nat) : Int) := by
  have h1 : (a &&& b) < 9223372036854775808 := Nat.lt_of_le_of_lt Nat.and_le_left ha
  have ha2 : a < 2 ^ IntKind.i64.bits := by have : a < 18446744073709551616 := by omega
                                            simpa [IntKind.bits] using this
  have hb2 : b < 2 ^ IntKind.i64.bits := by have : b < 18446744073709551616 := by omega
                                            simpa [IntKind.bits] using this
  simp only [bits, BitVec.ofInt_natCast, BitVec.toNat_and, BitVec.toNat_ofNat, Nat.mod_eq_of_lt ha2, Nat.mod_eq_of_lt hb2]
  generalize a &&& b = c at h1
  simp only [IntKind.wrap, IntKind.bits, IntKind.signed]
  simp
  omega
theorem tail_is (c : Nat) (a b d e f g h i : Nat) (hc : c = N8 a b d e f g h i) (ha : a ≤ 8) (hb : b ≤ 8) (hd : d ≤ 8) (he : e ≤ 8) (hf : f ≤ 8) (hg : g ≤ 8) (hh : h ≤ 8) (hi : i ≤ 8) :
    ∃ D E F : Nat, D = c + c / 256 ∧ E = D + D / 65536 ∧ F = E + E / 4294967296 ∧ D < 9223372036854775808 ∧ E < 9223372036854775808 ∧ F < 9223372036854775808 ∧ F % 128 = a + b + d + e + f + g + h + i := by
  have h1 : c / 256 = N8 b d e f g h i 0 := by rw [hc]; unfold N8; omega
  obtain ⟨D, hD⟩ : ∃ D, D = c + c / 256 := ⟨_, rfl⟩
  have hD2 : D = N8 (a + b) (b + d) (d + e) (e + f) (f + g) (g + h) (h + i) i := by rw [hD, h1, hc, N8_add, Nat.add_zero]
  have h2 : D / 65536 = N8 (d + e) (e + f) (f + g) (g + h) (h + i) i 0 0 := by rw [hD2]; unfold N8; omega
  obtain ⟨E, hE⟩ : ∃ E, E = D + D / 65536 := ⟨_, rfl⟩
  have hE2 : E = N8 (a + b + (d + e)) (b + d + (e + f)) (d + e + (f + g)) (e + f + (g + h)) (f + g + (h + i)) (g + h + i) (h + i) i := by rw [hE, h2, hD2, N8_add]; simp only [Nat.add_zero]
  have h3 : E / 4294967296 = N8 (f + g + (h + i)) (g + h + i) (h + i) i 0 0 0 0 := by rw [hE2]; unfold N8; omega
  obtain ⟨F, hF⟩ : ∃ F, F = E + E / 4294967296 := ⟨_, rfl⟩
  have hF2 : F = N8 (a + b + (d + e) + (f + g + (h + i))) (b + d + (e + f) + (g + h + i)) (d + e + (f + g) + (h + i)) (e + f + (g + h) + i) (f + g + (h + i)) (g + h + i) (h + i) i := by rw [hF, h3, hE2, N8_add]; simp only [Nat.add_zero]
  refine ⟨D, E, F, hD, hE, hF, ?_, ?_, ?_, ?_⟩
  · rw [hD2]; unfold N8; omega
  · rw [hE2]; unfold N8; omega
  · rw [hF2]; unfold N8; omega
  · rw [hF2]; unfold N8; omega
theorem pop_chain (x A B C D E F : Nat) (hx : x < 18446744073709551616) (hA : A = ((x / 2) &&& 6148914691236517205) + (x &&& 6148914691236517205)) (hB : B = ((A / 4) &&& 3689348814741910323) + (A &&& 3689348814741910323))
    (hC : C = (B / 16 + B) &&& 1085102592571150095) (hD : D = C + C / 256) (hE : E = D + D / 65536) (hF : F = E + E / 4294967296)
    (lA : A < 18446744073709551616) (lB : B < 9223372036854775808) (lD : D < 9223372036854775808) (lE : E < 9223372036854775808) (lF : F < 9223372036854775808) :
    bits_OnesCount64.f (x : Int) = some ((F % 128 : Nat) : Int) := by
  have a1 : bits .and .u64 ((x : Int) / 2) 6148914691236517205 = (((x / 2) &&& 6148914691236517205 : Nat) : Int) := and64 (x / 2) 6148914691236517205 (by omega) (by decide)
  have a2 : bits .and .u64 (x : Int) 6148914691236517205 = ((x &&& 6148914691236517205 : Nat) : Int) := and64 x 6148914691236517205 hx (by decide)
  have a3 : IntKind.u64.wrap ((((x / 2) &&& 6148914691236517205 : Nat) : Int) + ((x &&& 6148914691236517205 : Nat) : Int)) = (A : Int) := by
    rw [← Int.natCast_add, ← hA]
    clear hA hB hC hD hE hF
    rw [wrap_u64_id (by omega) (by omega)]
  have b1' : bits .and .u64 ((A : Int) / 4) 3689348814741910323 = (((A / 4) &&& 3689348814741910323 : Nat) : Int) := and64 (A / 4) 3689348814741910323 (Nat.lt_of_le_of_lt (Nat.div_le_self _ _) lA) (by decide)
  have b2' : bits .and .u64 (A : Int) 3689348814741910323 = ((A &&& 3689348814741910323 : Nat) : Int) := and64 A 3689348814741910323 lA (by decide)
  have b3' : IntKind.u64.wrap ((((A / 4) &&& 3689348814741910323 : Nat) : Int) + ((A &&& 3689348814741910323 : Nat) : Int)) = (B : Int) := by
    rw [← Int.natCast_add, ← hB]
    clear hA hB hC hD hE hF
    rw [wrap_u64_id (by omega) (by omega)]
  have c1 : IntKind.u64.wrap ((B : Int) / 16 + (B : Int)) = ((B / 16 + B : Nat) : Int) := by
    clear hA hB hC hD hE hF a1 a2 a3 b1' b2' b3'
    rw [wrap_u64_id (by omega) (by omega)]
    omega
  have c2 : bits .and .u64 ((B / 16 + B : Nat) : Int) 1085102592571150095 = (C : Int) := by
    rw [hC]
    exact and64 (B / 16 + B) 1085102592571150095 (by clear hA hB hC hD hE hF a1 a2 a3 b1' b2' b3' c1; omega) (by decide)
  have d1 : IntKind.u64.wrap ((C : Int) + (C : Int) / 256) = (D : Int) := by
    have : (C : Int) + (C : Int) / 256 = (D : Int) := by clear hA hB hC hE hF a1 a2 a3 b1' b2' b3' c1 c2; omega
    rw [this]
    exact wrap_u64_id (Int.natCast_nonneg _) (by clear hA hB hC hD hE hF a1 a2 a3 b1' b2' b3' c1 c2; omega)
  have e1 : IntKind.u64.wrap ((D : Int) + (D : Int) / 65536) = (E : Int) := by
    have : (D : Int) + (D : Int) / 65536 = (E : Int) := by clear hA hB hC hD hF a1 a2 a3 b1' b2' b3' c1 c2 d1; omega
    rw [this]
    exact wrap_u64_id (Int.natCast_nonneg _) (by clear hA hB hC hD hE hF a1 a2 a3 b1' b2' b3' c1 c2 d1; omega)
  have f1 : IntKind.u64.wrap ((E : Int) + (E : Int) / 4294967296) = (F : Int) := by
    have : (E : Int) + (E : Int) / 4294967296 = (F : Int) := by clear hA hB hC hD hE a1 a2 a3 b1' b2' b3' c1 c2 d1 e1; omega
    rw [this]
    exact wrap_u64_id (Int.natCast_nonneg _) (by clear hA hB hC hD hE hF a1 a2 a3 b1' b2' b3' c1 c2 d1 e1; omega)
  have g1 : bits .and .i64 (F : Int) 127 = ((F % 128 : Nat) : Int) := by
    rw [← Nat.and_two_pow_sub_one_eq_mod F 7]
    exact and_i64 F 127 lF (by decide)
  have w1 : wrap64 (F : Int) = (F : Int) := wrap64_id (by clear hA hB hC hD hE hF a1 a2 a3 b1' b2' b3' c1 c2 d1 e1 f1 g1; omega) (by clear hA hB hC hD hE hF a1 a2 a3 b1' b2' b3' c1 c2 d1 e1 f1 g1; omega)
  clear hA hB hC hD hE hF lA lB lD lE lF
  unfold bits_OnesCount64.f
  rw [a1, a2, a3, b1', b2', b3', c1, c2, d1, e1, f1, w1, g1]
theorem onesCount64_is (x : Nat) (hx : x < 18446744073709551616) : bits_OnesCount64.f (x : Int) = some ((Lib.popAux 64 x : Nat) : Int) := by
  have hx8 := N8_of x
  have hp := pop64 x
  have l0 : x % 256 < 256 := Nat.mod_lt _ (by decide)
  have l1 : x / 256 % 256 < 256 := Nat.mod_lt _ (by decide)
  have l2 : x / 65536 % 256 < 256 := Nat.mod_lt _ (by decide)
  have l3 : x / 16777216 % 256 < 256 := Nat.mod_lt _ (by decide)
  have l4 : x / 4294967296 % 256 < 256 := Nat.mod_lt _ (by decide)
  have l5 : x / 1099511627776 % 256 < 256 := Nat.mod_lt _ (by decide)
  have l6 : x / 281474976710656 % 256 < 256 := Nat.mod_lt _ (by decide)
  have l7 : x / 72057594037927936 < 256 := Nat.div_lt_of_lt_mul hx
  generalize x % 256 = b0 at hx8 hp l0
  generalize x / 256 % 256 = b1 at hx8 hp l1
  generalize x / 65536 % 256 = b2 at hx8 hp l2
  generalize x / 16777216 % 256 = b3 at hx8 hp l3
  generalize x / 4294967296 % 256 = b4 at hx8 hp l4
  generalize x / 1099511627776 % 256 = b5 at hx8 hp l5
  generalize x / 281474976710656 % 256 = b6 at hx8 hp l6
  generalize x / 72057594037927936 = b7 at hx8 hp l7
  obtain ⟨p0, q0, r0, s0, t0⟩ := bL l0
  obtain ⟨p1, q1, r1, s1, t1⟩ := bL l1
  obtain ⟨p2, q2, r2, s2, t2⟩ := bL l2
  obtain ⟨p3, q3, r3, s3, t3⟩ := bL l3
  obtain ⟨p4, q4, r4, s4, t4⟩ := bL l4
  obtain ⟨p5, q5, r5, s5, t5⟩ := bL l5
  obtain ⟨p6, q6, r6, s6, t6⟩ := bL l6
  obtain ⟨p7, q7, r7, s7, t7⟩ := bL l7
  obtain ⟨A, hA⟩ : ∃ A, A = ((x / 2) &&& 6148914691236517205) + (x &&& 6148914691236517205) := ⟨_, rfl⟩
  have hA2 := stepA l0 l1 l2 l3 l4 l5 l6 l7
  rw [← hx8, ← hA] at hA2
  obtain ⟨B, hB⟩ : ∃ B, B = ((A / 4) &&& 3689348814741910323) + (A &&& 3689348814741910323) := ⟨_, rfl⟩
  have hB2 := stepB p0 p1 p2 p3 p4 p5 p6 p7
  rw [← hA2, ← hB] at hB2
  obtain ⟨C, hC⟩ : ∃ C, C = (B / 16 + B) &&& 1085102592571150095 := ⟨_, rfl⟩
  have hC2 := stepC q0 q1 q2 q3 q4 q5 q6 q7 r1 r2 r3 r4 r5 r6 r7
  rw [← hB2, ← hC, s0, s1, s2, s3, s4, s5, s6, s7] at hC2
  obtain ⟨D, E, F, hD, hE, hF, lD, lE, lF, hlast⟩ := tail_is C _ _ _ _ _ _ _ _ hC2 t0 t1 t2 t3 t4 t5 t6 t7
  have lA : A < 18446744073709551616 := by rw [hA2]; exact N8_lt p0 p1 p2 p3 p4 p5 p6 p7
  have lB : B < 9223372036854775808 := by rw [hB2]; exact N8_lt68 q0 q1 q2 q3 q4 q5 q6 q7
  rw [pop_chain x A B C D E F hx hA hB hC hD hE hF lA lB lD lE lF, hlast, hp]
end Go.Proofs.Ytdipinclchkhjaa.P

namespace Go.Proofs.Ytdipinclchkhjaa.P
open Go.RowKit Go.Proofs.YtdipinclchkhjaaW.PrintWords Go.Proofs.YtdipinclchkhjaaW.PrintLast Go.Proofs.YtdipinclchkhjaaW.PrintMore
attribute [local go_sem] max2_int min2_int max_two min_two max_three min_three max_four min_four   -- for this text's walks alone
set_option linter.unusedVariables false
set_option linter.unusedSimpArgs false

/-! ### spec_l4mask: function 68 -/
mutual
def spec_l4mask.l0 : Nat → List Int → Int → Int → Int → Int → Option (Int × Int × Int)
  | 0, _, _, _, _, _ => none
  | k + 1, x0, x4, x203000, x203001, x203002 => if x4 ≥ 0 then (if 0 ≤ (IntKind.u64.wrap (x4)) then (spec_l4mask.l1 k x0 x4 (shl .u64 1 (IntKind.u64.wrap (x4))) 0 0 x203000 x203001 x203002) else (none)) else (some (x203000, x203001, x203002))
def spec_l4mask.l1 : Nat → List Int → Int → Int → Int → Int → Int → Int → Int → Option (Int × Int × Int)
  | 0, _, _, _, _, _, _, _, _ => none
  | k + 1, x0, x4, x5, x6, x7, x203000, x203001, x203002 => if x7 < (x0.length : Int) then (if 0 ≤ x7 then (if (Go.bits .and .u64 (rd x0 x7) x5) = 0 then (spec_l4mask.l1 k x0 x4 x5 x6 (wrap64 (x7 + 1)) x203000 x203001 x203002) else (spec_l4mask.l1 k x0 x4 x5 (wrap64 (x6 + 1)) (wrap64 (x7 + 1)) x203000 x203001 x203002)) else (none)) else (if x6 = 0 then (spec_l4mask.j2 k x0 x4 x5 x6 true x203000 x203001 x203002) else (spec_l4mask.j2 k x0 x4 x5 x6 (x6 == (x0.length : Int)) x203000 x203001 x203002))
def spec_l4mask.j2 : Nat → List Int → Int → Int → Int → Bool → Int → Int → Int → Option (Int × Int × Int)
  | 0, _, _, _, _, _, _, _, _ => none
  | k + 1, x0, x4, x5, x6, x38, x203000, x203001, x203002 => if x38 = true then (if x6 = (x0.length : Int) then (spec_l4mask.l0 k x0 (wrap64 (x4 - 1)) x203000 (Go.bits .or .u64 x203001 x5) (Go.bits .or .u64 x203002 x5)) else (spec_l4mask.l0 k x0 (wrap64 (x4 - 1)) x203000 (Go.bits .or .u64 x203001 x5) x203002)) else (if x6 = (x0.length : Int) then (spec_l4mask.l0 k x0 (wrap64 (x4 - 1)) x203000 x203001 (Go.bits .or .u64 x203002 x5)) else (spec_l4mask.l0 k x0 (wrap64 (x4 - 1)) x203000 x203001 x203002))
end
def spec_l4mask.f (k : Nat) (l0 : List Int) : Option (Int × Int × Int) := spec_l4mask.l0 k l0 63 1 0 0
theorem spec_l4mask.mono_l : ∀ k, (∀ y0 y1 y2 y3 y4, LeO (spec_l4mask.l0 k y0 y1 y2 y3 y4) (spec_l4mask.l0 (k + 1) y0 y1 y2 y3 y4)) ∧ (∀ y0 y1 y2 y3 y4 y5 y6 y7, LeO (spec_l4mask.l1 k y0 y1 y2 y3 y4 y5 y6 y7) (spec_l4mask.l1 (k + 1) y0 y1 y2 y3 y4 y5 y6 y7)) ∧ (∀ y0 y1 y2 y3 y4 y5 y6 y7, LeO (spec_l4mask.j2 k y0 y1 y2 y3 y4 y5 y6 y7) (spec_l4mask.j2 (k + 1) y0 y1 y2 y3 y4 y5 y6 y7))
  | 0 => ⟨fun _ _ _ _ _ r h => by simp [spec_l4mask.l0] at h, fun _ _ _ _ _ _ _ _ r h => by simp [spec_l4mask.l1] at h, fun _ _ _ _ _ _ _ _ r h => by simp [spec_l4mask.j2] at h⟩
  | k + 1 => by
    obtain ⟨ih0, ih1, ih2⟩ := spec_l4mask.mono_l k
    refine ⟨?_, ?_, ?_⟩
    · intro y0 y1 y2 y3 y4
      unfold spec_l4mask.l0
      repeat' first
      | (with_reducible exact ih0 _ _ _ _ _)
      | (with_reducible exact ih1 _ _ _ _ _ _ _ _)
      | (with_reducible exact ih2 _ _ _ _ _ _ _ _)
      | (with_reducible exact LeO.refl _)
      | (with_reducible exact LeO.none _)
      | (with_reducible refine LeO.ite ?_ ?_)
      | (with_reducible refine LeO.bind ?_ (fun _ => ?_))
      | exact ih0 _ _ _ _ _
      | exact ih1 _ _ _ _ _ _ _ _
      | exact ih2 _ _ _ _ _ _ _ _
      | exact LeO.none _
      | refine LeO.ite ?_ ?_
      | refine LeO.bind ?_ (fun _ => ?_)
    · intro y0 y1 y2 y3 y4 y5 y6 y7
      unfold spec_l4mask.l1
      repeat' first
      | (with_reducible exact ih0 _ _ _ _ _)
      | (with_reducible exact ih1 _ _ _ _ _ _ _ _)
      | (with_reducible exact ih2 _ _ _ _ _ _ _ _)
      | (with_reducible exact LeO.refl _)
      | (with_reducible exact LeO.none _)
      | (with_reducible refine LeO.ite ?_ ?_)
      | (with_reducible refine LeO.bind ?_ (fun _ => ?_))
      | exact ih0 _ _ _ _ _
      | exact ih1 _ _ _ _ _ _ _ _
      | exact ih2 _ _ _ _ _ _ _ _
      | exact LeO.none _
      | refine LeO.ite ?_ ?_
      | refine LeO.bind ?_ (fun _ => ?_)
    · intro y0 y1 y2 y3 y4 y5 y6 y7
      unfold spec_l4mask.j2
      repeat' first
      | (with_reducible exact ih0 _ _ _ _ _)
      | (with_reducible exact ih1 _ _ _ _ _ _ _ _)
      | (with_reducible exact ih2 _ _ _ _ _ _ _ _)
      | (with_reducible exact LeO.refl _)
      | (with_reducible exact LeO.none _)
      | (with_reducible refine LeO.ite ?_ ?_)
      | (with_reducible refine LeO.bind ?_ (fun _ => ?_))
      | exact ih0 _ _ _ _ _
      | exact ih1 _ _ _ _ _ _ _ _
      | exact ih2 _ _ _ _ _ _ _ _
      | exact LeO.none _
      | refine LeO.ite ?_ ?_
      | refine LeO.bind ?_ (fun _ => ?_)
theorem spec_l4mask.mono : ∀ a0 k, LeO (spec_l4mask.f k a0) (spec_l4mask.f (k + 1) a0) := by
  intro a0 k
  obtain ⟨ih0, ih1, ih2⟩ := spec_l4mask.mono_l k
  unfold spec_l4mask.f
  repeat' first
      | (with_reducible exact ih0 _ _ _ _ _)
      | (with_reducible exact ih1 _ _ _ _ _ _ _ _)
      | (with_reducible exact ih2 _ _ _ _ _ _ _ _)
      | (with_reducible exact LeO.refl _)
      | (with_reducible exact LeO.none _)
      | (with_reducible refine LeO.ite ?_ ?_)
      | (with_reducible refine LeO.bind ?_ (fun _ => ?_))
      | exact ih0 _ _ _ _ _
      | exact ih1 _ _ _ _ _ _ _ _
      | exact ih2 _ _ _ _ _ _ _ _
      | exact LeO.none _
      | refine LeO.ite ?_ ?_
      | refine LeO.bind ?_ (fun _ => ?_)
set_option maxHeartbeats 8000000 in
set_option maxRecDepth 100000 in
theorem spec_l4mask.calls (k : Nat) (A0 : Option Addr) (c0 : Nat) (l0 : List Int) (r1 : Int) (r2 : Int) (r3 : Int) (w : World) (hr0 : Kd.C (Kd.int .u64) w A0 l0.length l0) (hc0 : l0.length ≤ c0) (h : spec_l4mask.f k l0 = some (r1, r2, r3)) :
    Calls Try.prog 68 #[.slice A0 l0.length c0] w fun e w' => e = .returned (.agg #[.int .i64 r1, .int .u64 r2, .int .u64 r3]) ∧ Below w.heap.size w w' := by
  have hu26 := Try.underlying26
  have HR0 := Aside0.mk hr0
  have HC0 := Aside0.mk hc0
  clear hr0 hc0
  have HB := Aside0.mk (Below.refl w.heap.size w)
  have H : (spec_l4mask.l0 k l0 63 1 0 0) = some (r1, r2, r3) := h
  clear h
  have H' := Aside0.mk H
  clear H
  go_enter Try.func68, Try.ntmps68
  go_wp2_with (first | ((with_reducible refine gate_dst (N := 2) rfl ?_); (try (refine gate_guard (by rfl) ?_; dsimp only)); refine box_event ?hg (N := 2) ?hd (cs := #[.int .i64 0, .int .u64 0, .int .u64 0]) (t := 26) ?hr ?_; (case hd => rfl); (case hg => rfl); (case hr => first | (go_simp; done) | (go_simp; rfl)); intro gb201 hg w2 hbox hb; have n0_ := Aside0.mk (below_step (by repeat (first | (with_reducible first | exact HB.out | apply below_alloc | apply pw_below_drewN | apply below_drew1) | exact HB.out)) hb); have n1_ := Aside0.mk (hbox); have n2_ := Aside0.mk ((by rw [hg]; exact (below_size (by repeat (first | (with_reducible first | exact HB.out | apply below_alloc | apply pw_below_drewN | apply below_drew1) | exact HB.out))) : w.heap.size ≤ gb201)); have n3_ := Aside0.mk ((by rw [hg]; exact (below_size (by repeat (first | (with_reducible first | exact HB.out | apply below_alloc | apply pw_below_drewN | apply below_drew1) | exact HB.out))) : w.heap.size ≤ gb201)); clear HB; have HB := n0_; have BK201 := n1_; have GW201 := n2_; have GE201 := n3_; clear n0_ n1_ n2_ n3_; clear hb hbox hg) | ((with_reducible refine gate_dst (N := 3) rfl ?_); (try (refine gate_guard (by rfl) ?_; dsimp only)); refine box_event ?hg (N := 3) ?hd (cs := #[.int .i64 0, .int .u64 0, .int .u64 0]) (t := 26) ?hr ?_; (case hd => rfl); (case hg => rfl); (case hr => first | (go_simp; done) | (go_simp; rfl)); intro gb202 hg w3 hbox hb; have n0_ := Aside0.mk (blk_below (g := gb201) (o := .cells #[.int .i64 0, .int .u64 0, .int .u64 0] 26 (0, 0)) (by (with_reducible repeat (first | refine blk_drewN ?_ _ | refine blk_drew ?_ | refine blk_alloc ?_ _)); exact BK201.out) hb); have n1_ := Aside0.mk (below_step (by repeat (first | (with_reducible first | exact HB.out | apply below_alloc | apply pw_below_drewN | apply below_drew1 | refine below_set ?_ GE201.out) | exact HB.out)) hb); have n2_ := Aside0.mk (hbox); have n3_ := Aside0.mk ((by rw [hg]; exact (below_size (by repeat (first | (with_reducible first | exact HB.out | apply below_alloc | apply pw_below_drewN | apply below_drew1 | refine below_set ?_ GE201.out) | exact HB.out))) : w.heap.size ≤ gb202)); have n4_ := Aside0.mk ((by rw [hg]; exact (below_size (by repeat (first | (with_reducible first | exact HB.out | apply below_alloc | apply pw_below_drewN | apply below_drew1 | refine below_set ?_ GE201.out) | exact HB.out))) : w.heap.size ≤ gb202)); have n5_ := Aside0.mk ((by rw [hg]; exact Nat.ne_of_lt (blk_lt (g := gb201) (o := .cells #[.int .i64 0, .int .u64 0, .int .u64 0] 26 (0, 0)) (by (with_reducible repeat (first | refine blk_drewN ?_ _ | refine blk_drew ?_ | refine blk_alloc ?_ _)); exact BK201.out)) : gb201 ≠ gb202)); have n6_ := Aside0.mk ((by rw [hg]; exact Nat.ne_of_gt (blk_lt (g := gb201) (o := .cells #[.int .i64 0, .int .u64 0, .int .u64 0] 26 (0, 0)) (by (with_reducible repeat (first | refine blk_drewN ?_ _ | refine blk_drew ?_ | refine blk_alloc ?_ _)); exact BK201.out)) : gb202 ≠ gb201)); clear BK201; clear HB; have BK201 := n0_; have HB := n1_; have BK202 := n2_; have GW202 := n3_; have GE202 := n4_; have NB201_202 := n5_; have NB202_201 := n6_; clear n0_ n1_ n2_ n3_ n4_ n5_ n6_; clear hb hbox hg; have hnb4 := NB202_201.out; have hnc4 := NB201_202.out; have hcz5_0 : w3.cell? ⟨gb202, 0, none⟩ = some (.int .i64 0) := (blk_cell BK202.out 0).trans rfl; have hcz5_1 : w3.cell? ⟨gb202, 1, none⟩ = some (.int .u64 0) := (blk_cell BK202.out 1).trans rfl; have hcz5_2 : w3.cell? ⟨gb202, 2, none⟩ = some (.int .u64 0) := (blk_cell BK202.out 2).trans rfl; have hfz5_0 := blk_frozen BK202.out 0; have hfz5_1 := blk_frozen BK202.out 1; have hfz5_2 := blk_frozen BK202.out 2))
  go_loopg [4] k (fun kq v4 w' => ∃ (x4_1 : Int) (x203001_1 : Int) (x203002_1 : Int), v4 = .int .i64 x4_1 ∧ Aside0 (spec_l4mask.l0 kq l0 x4_1 1 x203001_1 x203002_1 = some (r1, r2, r3)) ∧ Aside0 (kq ≤ k) ∧ Aside0 (w'.heap[gb201]? = some (.cells #[.int .i64 0, .int .u64 0, .int .u64 0] 26 (0, 0))) ∧ Aside0 (w'.heap[gb202]? = some (.cells #[.int .i64 1, .int .u64 x203001_1, .int .u64 x203002_1] 26 (0, 0))) ∧ Aside0 (Below w.heap.size w w'))
  case atStart => exact ⟨(63), (0), (0), (by first | rfl | (simp; done) | (simp [*]; done)), H', ⟨Nat.le_refl _⟩, ⟨by (with_reducible repeat (first | refine blk_drewN ?_ _ | refine blk_drew ?_ | refine blk_alloc ?_ _)); refine blk_far ?_ NB201_202.out _; (with_reducible repeat (first | refine blk_drewN ?_ _ | refine blk_drew ?_ | refine blk_alloc ?_ _)); refine blk_far ?_ NB201_202.out _; (with_reducible repeat (first | refine blk_drewN ?_ _ | refine blk_drew ?_ | refine blk_alloc ?_ _)); refine blk_far ?_ NB201_202.out _; (with_reducible repeat (first | refine blk_drewN ?_ _ | refine blk_drew ?_ | refine blk_alloc ?_ _)); exact BK201.out⟩, ⟨by (with_reducible repeat (first | refine blk_drewN ?_ _ | refine blk_drew ?_ | refine blk_alloc ?_ _)); refine blk_put (cs := #[.int .i64 1, .int .u64 0, .int .u64 0]) ?_ 2 _ rfl; (with_reducible repeat (first | refine blk_drewN ?_ _ | refine blk_drew ?_ | refine blk_alloc ?_ _)); refine blk_put (cs := #[.int .i64 1, .int .u64 0, .int .u64 0]) ?_ 1 _ rfl; (with_reducible repeat (first | refine blk_drewN ?_ _ | refine blk_drew ?_ | refine blk_alloc ?_ _)); refine blk_put (cs := #[.int .i64 0, .int .u64 0, .int .u64 0]) ?_ 0 _ rfl; (with_reducible repeat (first | refine blk_drewN ?_ _ | refine blk_drew ?_ | refine blk_alloc ?_ _)); exact BK202.out⟩, ⟨by repeat (first | (with_reducible first | exact HB.out | apply below_alloc | apply pw_below_drewN | apply below_drew1 | refine below_set ?_ GE201.out | refine below_set ?_ GE202.out) | exact HB.out)⟩⟩
  case round =>
    clear H'
    try clear p2
    try clear c4
    try clear hcz5_0
    try clear hcz5_1
    try clear hcz5_2
    try clear hfz5_0
    try clear hfz5_1
    try clear hfz5_2
    obtain ⟨x4_1, x203001_1, x203002_1, rfl, HA, HK1, BK201, BK202, HB⟩ := hrel
    cases gk with
    | zero => exact absurd HA.out (by simp [spec_l4mask.l0])
    | succ k1 =>
      have H := HA.out
      clear HA
      simp only [spec_l4mask.l0] at H
      by_cases c6 : x4_1 ≥ 0
      · rw [if_pos c6] at H
        have c6b0 : decide (0 ≤ x4_1) = true := decide_eq_true c6
        clear c6
        obtain ⟨ji7, hji7⟩ : ∃ j_ : Int, (IntKind.u64.wrap (x4_1)) = j_ := ⟨_, rfl⟩
        replace H : (if 0 ≤ (ji7) then (spec_l4mask.l1 k1 l0 x4_1 (shl .u64 1 (ji7)) 0 0 1 x203001_1 x203002_1) else (none)) = some (r1, r2, r3) := by first | (rw [hji7] at H; exact H) | (simp only [hji7] at H ⊢; exact H)
        by_cases c8 : 0 ≤ (ji7)
        · rw [if_pos c8] at H
          have c8b0 := eq_true c8
          have c8b1 : decide (0 ≤ (ji7)) = true := decide_eq_true c8
          clear c8
          obtain ⟨ji9, hji9⟩ : ∃ j_ : Int, (shl .u64 1 (ji7)) = j_ := ⟨_, rfl⟩
          replace H : (spec_l4mask.l1 k1 l0 x4_1 ji9 0 0 1 x203001_1 x203002_1) = some (r1, r2, r3) := by first | (rw [hji9] at H; exact H) | (simp only [hji9] at H ⊢; exact H)
          have hji9_ : (IntKind.u64.wrap (1 * 2 ^ min (ji7).toNat 64)) = ji9 := hji9
          try have hji9n : 0 ≤ (ji7) := by omega
          have hji9z : (ji7) ≤ 64 → (IntKind.u64.wrap (1 * 2 ^ (ji7).toNat)) = ji9 := shl_small hji9
          have hji9u : (IntKind.u64.wrap (2 ^ min (ji7).toNat 64)) = ji9 := by have h_ := hji9_; rw [Int.one_mul] at h_; exact h_
          have hji9v : (ji7) ≤ 64 → (IntKind.u64.wrap (2 ^ (ji7).toNat)) = ji9 := fun hle_ => by have h_ := hji9z hle_; rw [Int.one_mul] at h_; exact h_
          have H' := Aside0.mk H
          clear H
          go_wp2
          go_loopg [6, 7] k1 (fun kq v6 v7 w' => ∃ (x6_2 : Int) (x7_2 : Int), v6 = .int .i64 x6_2 ∧ v7 = .int .i64 x7_2 ∧ Aside0 (spec_l4mask.l1 kq l0 x4_1 ji9 x6_2 x7_2 1 x203001_1 x203002_1 = some (r1, r2, r3)) ∧ Aside0 (kq ≤ k1) ∧ Aside0 (w'.heap[gb201]? = some (.cells #[.int .i64 0, .int .u64 0, .int .u64 0] 26 (0, 0))) ∧ Aside0 (w'.heap[gb202]? = some (.cells #[.int .i64 1, .int .u64 x203001_1, .int .u64 x203002_1] 26 (0, 0))) ∧ Aside0 (Below w.heap.size w w'))
          case atStart => exact ⟨(0), (0), (by first | rfl | (simp; done) | (simp [*]; done)), (by first | rfl | (simp; done) | (simp [*]; done)), H', ⟨Nat.le_refl _⟩, ⟨by (with_reducible repeat (first | refine blk_drewN ?_ _ | refine blk_drew ?_ | refine blk_alloc ?_ _)); exact BK201.out⟩, ⟨by (with_reducible repeat (first | refine blk_drewN ?_ _ | refine blk_drew ?_ | refine blk_alloc ?_ _)); exact BK202.out⟩, ⟨by repeat (first | (with_reducible first | exact HB.out | apply below_alloc | apply pw_below_drewN | apply below_drew1 | refine below_set ?_ GE201.out | refine below_set ?_ GE202.out) | exact HB.out)⟩⟩
          case round =>
            clear H'
            try clear p2
            try clear c4
            try clear c6
            try clear c6b0
            try clear c8
            try clear c8b0
            try clear c8b1
            try clear hcz5_0
            try clear hcz5_1
            try clear hcz5_2
            try clear hfz5_0
            try clear hfz5_1
            try clear hfz5_2
            try clear p2
            obtain ⟨x6_2, x7_2, rfl, rfl, HA, HK2, BK201, BK202, HB⟩ := hrel
            cases gk with
            | zero => exact absurd HA.out (by simp [spec_l4mask.l1])
            | succ k2 =>
              have H := HA.out
              clear HA
              simp only [spec_l4mask.l1] at H
              by_cases c10 : x7_2 < (l0.length : Int)
              · rw [if_pos c10] at H
                have c10b0 : decide (x7_2 < (l0.length : Int)) = true := decide_eq_true c10
                clear c10
                by_cases c11 : 0 ≤ x7_2
                · rw [if_pos c11] at H
                  have c11b0 : decide (0 ≤ x7_2) = true := decide_eq_true c11
                  clear c11
                  by_cases c12 : (Go.bits .and .u64 (rd l0 x7_2) ji9) = 0
                  · rw [if_pos c12] at H
                    have c12b0 : ((Go.bits .and .u64 (rd l0 x7_2) ji9) == 0) = true := beq_iff_eq.mpr c12
                    have c12b1 : ((Go.bits .and .u64 (rd l0 x7_2) ji9) != 0) = false := bne_eq_false_iff_eq.mpr c12
                    clear c12
                    have H' := Aside0.mk H
                    clear H
                    have p203 : 0 ≤ (x7_2 : Int) := of_decide_eq_true (by first | (with_reducible assumption) | assumption)
                    have q203 : x7_2 < (l0.length : Int) := of_decide_eq_true (by first | (with_reducible assumption) | assumption)
                    obtain ⟨ad203, e203, hx203_0⟩ := Kd.at_int HR0.out x7_2 p203 q203
                    cases e203
                    replace hx203_0 := (HB.out.cell (World.block_lt_of_cell? w _ hx203_0)).trans hx203_0
                    replace p203 := eq_true p203
                    replace q203 := eq_true q203
                    go_wp2
                    go_roundg k2
                    case measure => have := HK1.out; have := HK2.out; omega
                    case rel => exact ⟨(x6_2), (wrap64 (x7_2 + 1)), (by first | rfl | (simp; done) | (simp [*]; done)), (by first | rfl | (simp; done) | (simp [*]; done)), H', ⟨by have := HK1.out; have := HK2.out; omega⟩, ⟨by (with_reducible repeat (first | refine blk_drewN ?_ _ | refine blk_drew ?_ | refine blk_alloc ?_ _)); exact BK201.out⟩, ⟨by (with_reducible repeat (first | refine blk_drewN ?_ _ | refine blk_drew ?_ | refine blk_alloc ?_ _)); exact BK202.out⟩, ⟨by repeat (first | (with_reducible first | exact HB.out | apply below_alloc | apply pw_below_drewN | apply below_drew1 | refine below_set ?_ GE201.out | refine below_set ?_ GE202.out) | exact HB.out)⟩⟩
                  · rw [if_neg c12] at H
                    have c12b0 : ((Go.bits .and .u64 (rd l0 x7_2) ji9) == 0) = false := beq_eq_false_iff_ne.mpr c12
                    have c12b1 : ((Go.bits .and .u64 (rd l0 x7_2) ji9) != 0) = true := bne_iff_ne.mpr c12
                    have H' := Aside0.mk H
                    clear H
                    have p203 : 0 ≤ (x7_2 : Int) := of_decide_eq_true (by first | (with_reducible assumption) | assumption)
                    have q203 : x7_2 < (l0.length : Int) := of_decide_eq_true (by first | (with_reducible assumption) | assumption)
                    obtain ⟨ad203, e203, hx203_0⟩ := Kd.at_int HR0.out x7_2 p203 q203
                    cases e203
                    replace hx203_0 := (HB.out.cell (World.block_lt_of_cell? w _ hx203_0)).trans hx203_0
                    replace p203 := eq_true p203
                    replace q203 := eq_true q203
                    go_wp2
                    go_roundg k2
                    case measure => have := HK1.out; have := HK2.out; omega
                    case rel => exact ⟨(wrap64 (x6_2 + 1)), (wrap64 (x7_2 + 1)), (by first | rfl | (simp; done) | (simp [*]; done)), (by first | rfl | (simp; done) | (simp [*]; done)), H', ⟨by have := HK1.out; have := HK2.out; omega⟩, ⟨by (with_reducible repeat (first | refine blk_drewN ?_ _ | refine blk_drew ?_ | refine blk_alloc ?_ _)); exact BK201.out⟩, ⟨by (with_reducible repeat (first | refine blk_drewN ?_ _ | refine blk_drew ?_ | refine blk_alloc ?_ _)); exact BK202.out⟩, ⟨by repeat (first | (with_reducible first | exact HB.out | apply below_alloc | apply pw_below_drewN | apply below_drew1 | refine below_set ?_ GE201.out | refine below_set ?_ GE202.out) | exact HB.out)⟩⟩
                · rw [if_neg c11] at H
                  exact absurd H (by simp)
              · rw [if_neg c10] at H
                have c10b0 : decide (x7_2 < (l0.length : Int)) = false := decide_eq_false c10
                clear c10
                have HC13 := Aside0.mk H
                clear H
                go_upto_region 12 with (fail)
                go_cut [38] (fun v38 wc => ∃ (kq : Nat) (x38_12 : Bool), v38 = .bool x38_12 ∧ Aside0 (spec_l4mask.j2 kq l0 x4_1 ji9 x6_2 x38_12 1 x203001_1 x203002_1 = some (r1, r2, r3)) ∧ Aside0 (kq ≤ k2) ∧ Aside0 (wc.heap[gb201]? = some (.cells #[.int .i64 0, .int .u64 0, .int .u64 0] 26 (0, 0))) ∧ Aside0 (wc.heap[gb202]? = some (.cells #[.int .i64 1, .int .u64 x203001_1, .int .u64 x203002_1] 26 (0, 0))) ∧ Aside0 (Below w.heap.size w wc))
                case first =>
                  have H := HC13.out
                  clear HC13
                  by_cases c14 : x6_2 = 0
                  · rw [if_pos c14] at H
                    have c14b0 : (x6_2 == 0) = true := beq_iff_eq.mpr c14
                    have c14b1 : (x6_2 != 0) = false := bne_eq_false_iff_eq.mpr c14
                    clear c14
                    (first | rw [c14b0] | (simp only [i64_w, i32_w]; rw [c14b0]) | skip)
                    have H' := Aside0.mk H
                    clear H
                    go_wp2
                    go_meet
                    case rel => exact ⟨_, (true), (by first | rfl | (simp; done) | (simp [*]; done)), H', ⟨by have := HK1.out; have := HK2.out; first | omega | exact Nat.le_refl _⟩, ⟨by (with_reducible repeat (first | refine blk_drewN ?_ _ | refine blk_drew ?_ | refine blk_alloc ?_ _)); exact BK201.out⟩, ⟨by (with_reducible repeat (first | refine blk_drewN ?_ _ | refine blk_drew ?_ | refine blk_alloc ?_ _)); exact BK202.out⟩, ⟨by repeat (first | (with_reducible first | exact HB.out | apply below_alloc | apply pw_below_drewN | apply below_drew1 | refine below_set ?_ GE201.out | refine below_set ?_ GE202.out) | exact HB.out)⟩⟩
                  · rw [if_neg c14] at H
                    have c14b0 : (x6_2 == 0) = false := beq_eq_false_iff_ne.mpr c14
                    have c14b1 : (x6_2 != 0) = true := bne_iff_ne.mpr c14
                    (first | rw [c14b0] | (simp only [i64_w, i32_w]; rw [c14b0]) | skip)
                    have H' := Aside0.mk H
                    clear H
                    go_wp2
                    go_meet
                    case rel => exact ⟨_, ((x6_2 == (l0.length : Int))), (by first | rfl | (simp; done) | (simp [*]; done)), H', ⟨by have := HK1.out; have := HK2.out; first | omega | exact Nat.le_refl _⟩, ⟨by (with_reducible repeat (first | refine blk_drewN ?_ _ | refine blk_drew ?_ | refine blk_alloc ?_ _)); exact BK201.out⟩, ⟨by (with_reducible repeat (first | refine blk_drewN ?_ _ | refine blk_drew ?_ | refine blk_alloc ?_ _)); exact BK202.out⟩, ⟨by repeat (first | (with_reducible first | exact HB.out | apply below_alloc | apply pw_below_drewN | apply below_drew1 | refine below_set ?_ GE201.out | refine below_set ?_ GE202.out) | exact HB.out)⟩⟩
                case rest =>
                  clear HC13
                  try clear c1
                  try clear p2
                  try clear q2
                  try clear hx2
                  try clear c4
                  try clear c6
                  try clear c6b0
                  try clear p6
                  try clear c8
                  try clear c8b0
                  try clear c8b1
                  try clear c10
                  try clear c10b0
                  try clear c11
                  try clear c11b0
                  try clear c12
                  try clear c12b0
                  try clear c12b1
                  try clear c14
                  try clear c14b0
                  try clear c14b1
                  try clear hcz5_0
                  try clear hcz5_1
                  try clear hcz5_2
                  try clear hfz5_0
                  try clear hfz5_1
                  try clear hfz5_2
                  try clear hx203_0
                  try clear p2
                  try clear p203
                  try clear q203
                  obtain ⟨kq, x38_12, rfl, HA, HJ12, BK201, BK202, HB⟩ := hcut
                  cases kq with
                  | zero => exact absurd HA.out (by simp [spec_l4mask.j2])
                  | succ kj12 =>
                    have H := HA.out
                    clear HA
                    simp only [spec_l4mask.j2] at H
                    by_cases c15 : x38_12 = true
                    · subst c15
                      have H1 : (if x6_2 = (l0.length : Int) then (spec_l4mask.l0 kj12 l0 (wrap64 (x4_1 - 1)) 1 (Go.bits .or .u64 x203001_1 ji9) (Go.bits .or .u64 x203002_1 ji9)) else (spec_l4mask.l0 kj12 l0 (wrap64 (x4_1 - 1)) 1 (Go.bits .or .u64 x203001_1 ji9) x203002_1)) = some (r1, r2, r3) := by rw [if_pos rfl] at H; exact H
                      clear H
                      have H := H1
                      clear H1
                      by_cases c16 : x6_2 = (l0.length : Int)
                      · rw [if_pos c16] at H
                        have c16b0 : (x6_2 == (l0.length : Int)) = true := beq_iff_eq.mpr c16
                        have c16b1 : (x6_2 != (l0.length : Int)) = false := bne_eq_false_iff_eq.mpr c16
                        clear c16
                        have H' := Aside0.mk H
                        clear H
                        have hnb17 := NB202_201.out
                        have hnc17 := NB201_202.out
                        have hcz18_0 : wc.cell? ⟨gb202, 0, none⟩ = some (.int .i64 1) := (blk_cell BK202.out 0).trans rfl
                        have hcz18_1 : wc.cell? ⟨gb202, 1, none⟩ = some (.int .u64 x203001_1) := (blk_cell BK202.out 1).trans rfl
                        have hcz18_2 : wc.cell? ⟨gb202, 2, none⟩ = some (.int .u64 x203002_1) := (blk_cell BK202.out 2).trans rfl
                        have hfz18_0 := blk_frozen BK202.out 0
                        have hfz18_1 := blk_frozen BK202.out 1
                        have hfz18_2 := blk_frozen BK202.out 2
                        go_wp2
                        go_roundg kj12
                        case measure => have := HK1.out; have := HK2.out; have := HJ12.out; omega
                        case rel => exact ⟨(wrap64 (x4_1 - 1)), (Go.bits .or .u64 x203001_1 ji9), (Go.bits .or .u64 x203002_1 ji9), (by first | rfl | (simp; done) | (simp [*]; done)), H', ⟨by have := HK1.out; have := HK2.out; have := HJ12.out; omega⟩, ⟨by (with_reducible repeat (first | refine blk_drewN ?_ _ | refine blk_drew ?_ | refine blk_alloc ?_ _)); refine blk_far ?_ NB201_202.out _; (with_reducible repeat (first | refine blk_drewN ?_ _ | refine blk_drew ?_ | refine blk_alloc ?_ _)); refine blk_far ?_ NB201_202.out _; (with_reducible repeat (first | refine blk_drewN ?_ _ | refine blk_drew ?_ | refine blk_alloc ?_ _)); exact BK201.out⟩, ⟨by (with_reducible repeat (first | refine blk_drewN ?_ _ | refine blk_drew ?_ | refine blk_alloc ?_ _)); refine blk_put (cs := #[.int .i64 1, .int .u64 (Go.bits .or .u64 x203001_1 ji9), .int .u64 x203002_1]) ?_ 2 _ rfl; (with_reducible repeat (first | refine blk_drewN ?_ _ | refine blk_drew ?_ | refine blk_alloc ?_ _)); refine blk_put (cs := #[.int .i64 1, .int .u64 x203001_1, .int .u64 x203002_1]) ?_ 1 _ rfl; (with_reducible repeat (first | refine blk_drewN ?_ _ | refine blk_drew ?_ | refine blk_alloc ?_ _)); exact BK202.out⟩, ⟨by repeat (first | (with_reducible first | exact HB.out | apply below_alloc | apply pw_below_drewN | apply below_drew1 | refine below_set ?_ GE201.out | refine below_set ?_ GE202.out) | exact HB.out)⟩⟩
                      · rw [if_neg c16] at H
                        have c16b0 : (x6_2 == (l0.length : Int)) = false := beq_eq_false_iff_ne.mpr c16
                        have c16b1 : (x6_2 != (l0.length : Int)) = true := bne_iff_ne.mpr c16
                        have H' := Aside0.mk H
                        clear H
                        have hnb19 := NB202_201.out
                        have hnc19 := NB201_202.out
                        have hcz20_0 : wc.cell? ⟨gb202, 0, none⟩ = some (.int .i64 1) := (blk_cell BK202.out 0).trans rfl
                        have hcz20_1 : wc.cell? ⟨gb202, 1, none⟩ = some (.int .u64 x203001_1) := (blk_cell BK202.out 1).trans rfl
                        have hcz20_2 : wc.cell? ⟨gb202, 2, none⟩ = some (.int .u64 x203002_1) := (blk_cell BK202.out 2).trans rfl
                        have hfz20_0 := blk_frozen BK202.out 0
                        have hfz20_1 := blk_frozen BK202.out 1
                        have hfz20_2 := blk_frozen BK202.out 2
                        go_wp2
                        go_roundg kj12
                        case measure => have := HK1.out; have := HK2.out; have := HJ12.out; omega
                        case rel => exact ⟨(wrap64 (x4_1 - 1)), (Go.bits .or .u64 x203001_1 ji9), (x203002_1), (by first | rfl | (simp; done) | (simp [*]; done)), H', ⟨by have := HK1.out; have := HK2.out; have := HJ12.out; omega⟩, ⟨by (with_reducible repeat (first | refine blk_drewN ?_ _ | refine blk_drew ?_ | refine blk_alloc ?_ _)); refine blk_far ?_ NB201_202.out _; (with_reducible repeat (first | refine blk_drewN ?_ _ | refine blk_drew ?_ | refine blk_alloc ?_ _)); exact BK201.out⟩, ⟨by (with_reducible repeat (first | refine blk_drewN ?_ _ | refine blk_drew ?_ | refine blk_alloc ?_ _)); refine blk_put (cs := #[.int .i64 1, .int .u64 x203001_1, .int .u64 x203002_1]) ?_ 1 _ rfl; (with_reducible repeat (first | refine blk_drewN ?_ _ | refine blk_drew ?_ | refine blk_alloc ?_ _)); exact BK202.out⟩, ⟨by repeat (first | (with_reducible first | exact HB.out | apply below_alloc | apply pw_below_drewN | apply below_drew1 | refine below_set ?_ GE201.out | refine below_set ?_ GE202.out) | exact HB.out)⟩⟩
                    · replace c15 := Bool.eq_false_iff.mpr c15
                      subst c15
                      have H1 : (if x6_2 = (l0.length : Int) then (spec_l4mask.l0 kj12 l0 (wrap64 (x4_1 - 1)) 1 x203001_1 (Go.bits .or .u64 x203002_1 ji9)) else (spec_l4mask.l0 kj12 l0 (wrap64 (x4_1 - 1)) 1 x203001_1 x203002_1)) = some (r1, r2, r3) := by rw [if_neg (show ¬ (false = true) by decide)] at H; exact H
                      clear H
                      have H := H1
                      clear H1
                      by_cases c21 : x6_2 = (l0.length : Int)
                      · rw [if_pos c21] at H
                        have c21b0 : (x6_2 == (l0.length : Int)) = true := beq_iff_eq.mpr c21
                        have c21b1 : (x6_2 != (l0.length : Int)) = false := bne_eq_false_iff_eq.mpr c21
                        clear c21
                        have H' := Aside0.mk H
                        clear H
                        have hnb22 := NB202_201.out
                        have hnc22 := NB201_202.out
                        have hcz23_0 : wc.cell? ⟨gb202, 0, none⟩ = some (.int .i64 1) := (blk_cell BK202.out 0).trans rfl
                        have hcz23_1 : wc.cell? ⟨gb202, 1, none⟩ = some (.int .u64 x203001_1) := (blk_cell BK202.out 1).trans rfl
                        have hcz23_2 : wc.cell? ⟨gb202, 2, none⟩ = some (.int .u64 x203002_1) := (blk_cell BK202.out 2).trans rfl
                        have hfz23_0 := blk_frozen BK202.out 0
                        have hfz23_1 := blk_frozen BK202.out 1
                        have hfz23_2 := blk_frozen BK202.out 2
                        go_wp2
                        go_roundg kj12
                        case measure => have := HK1.out; have := HK2.out; have := HJ12.out; omega
                        case rel => exact ⟨(wrap64 (x4_1 - 1)), (x203001_1), (Go.bits .or .u64 x203002_1 ji9), (by first | rfl | (simp; done) | (simp [*]; done)), H', ⟨by have := HK1.out; have := HK2.out; have := HJ12.out; omega⟩, ⟨by (with_reducible repeat (first | refine blk_drewN ?_ _ | refine blk_drew ?_ | refine blk_alloc ?_ _)); refine blk_far ?_ NB201_202.out _; (with_reducible repeat (first | refine blk_drewN ?_ _ | refine blk_drew ?_ | refine blk_alloc ?_ _)); exact BK201.out⟩, ⟨by (with_reducible repeat (first | refine blk_drewN ?_ _ | refine blk_drew ?_ | refine blk_alloc ?_ _)); refine blk_put (cs := #[.int .i64 1, .int .u64 x203001_1, .int .u64 x203002_1]) ?_ 2 _ rfl; (with_reducible repeat (first | refine blk_drewN ?_ _ | refine blk_drew ?_ | refine blk_alloc ?_ _)); exact BK202.out⟩, ⟨by repeat (first | (with_reducible first | exact HB.out | apply below_alloc | apply pw_below_drewN | apply below_drew1 | refine below_set ?_ GE201.out | refine below_set ?_ GE202.out) | exact HB.out)⟩⟩
                      · rw [if_neg c21] at H
                        have c21b0 : (x6_2 == (l0.length : Int)) = false := beq_eq_false_iff_ne.mpr c21
                        have c21b1 : (x6_2 != (l0.length : Int)) = true := bne_iff_ne.mpr c21
                        have H' := Aside0.mk H
                        clear H
                        go_wp2
                        go_roundg kj12
                        case measure => have := HK1.out; have := HK2.out; have := HJ12.out; omega
                        case rel => exact ⟨(wrap64 (x4_1 - 1)), (x203001_1), (x203002_1), (by first | rfl | (simp; done) | (simp [*]; done)), H', ⟨by have := HK1.out; have := HK2.out; have := HJ12.out; omega⟩, ⟨by (with_reducible repeat (first | refine blk_drewN ?_ _ | refine blk_drew ?_ | refine blk_alloc ?_ _)); exact BK201.out⟩, ⟨by (with_reducible repeat (first | refine blk_drewN ?_ _ | refine blk_drew ?_ | refine blk_alloc ?_ _)); exact BK202.out⟩, ⟨by repeat (first | (with_reducible first | exact HB.out | apply below_alloc | apply pw_below_drewN | apply below_drew1 | refine below_set ?_ GE201.out | refine below_set ?_ GE202.out) | exact HB.out)⟩⟩
        · rw [if_neg c8] at H
          exact absurd H (by simp)
      · rw [if_neg c6] at H
        have c6b0 : decide (0 ≤ x4_1) = false := decide_eq_false c6
        clear c6
        simp only [Option.some.injEq, Prod.mk.injEq] at H
        obtain ⟨rfl, rfl, rfl⟩ := H
        have hnb24 := NB202_201.out
        have hnc24 := NB201_202.out
        have hcz25_0 : wr.cell? ⟨gb202, 0, none⟩ = some (.int .i64 1) := (blk_cell BK202.out 0).trans rfl
        have hcz25_1 : wr.cell? ⟨gb202, 1, none⟩ = some (.int .u64 x203001_1) := (blk_cell BK202.out 1).trans rfl
        have hcz25_2 : wr.cell? ⟨gb202, 2, none⟩ = some (.int .u64 x203002_1) := (blk_cell BK202.out 2).trans rfl
        have hfz25_0 := blk_frozen BK202.out 0
        have hfz25_1 := blk_frozen BK202.out 1
        have hfz25_2 := blk_frozen BK202.out 2
        have hcz26_0 : wr.cell? ⟨gb201, 0, none⟩ = some (.int .i64 0) := (blk_cell BK201.out 0).trans rfl
        have hcz26_1 : wr.cell? ⟨gb201, 1, none⟩ = some (.int .u64 0) := (blk_cell BK201.out 1).trans rfl
        have hcz26_2 : wr.cell? ⟨gb201, 2, none⟩ = some (.int .u64 0) := (blk_cell BK201.out 2).trans rfl
        have hfz26_0 := blk_frozen BK201.out 0
        have hfz26_1 := blk_frozen BK201.out 1
        have hfz26_2 := blk_frozen BK201.out 2
        go_wp2
        refine bodyPost_ret (results_cell_row rfl _ _ gb201 26 #[.int .i64 1, .int .u64 x203001_1, .int .u64 x203002_1] (0, 0) _ rfl (by (with_reducible repeat (first | refine blk_drewN ?_ _ | refine blk_drew ?_ | refine blk_alloc ?_ _)); refine blk_put (cs := #[.int .i64 1, .int .u64 x203001_1, .int .u64 0]) ?_ 2 _ rfl; (with_reducible repeat (first | refine blk_drewN ?_ _ | refine blk_drew ?_ | refine blk_alloc ?_ _)); refine blk_put (cs := #[.int .i64 1, .int .u64 0, .int .u64 0]) ?_ 1 _ rfl; (with_reducible repeat (first | refine blk_drewN ?_ _ | refine blk_drew ?_ | refine blk_alloc ?_ _)); refine blk_put (cs := #[.int .i64 0, .int .u64 0, .int .u64 0]) ?_ 0 _ rfl; (with_reducible repeat (first | refine blk_drewN ?_ _ | refine blk_drew ?_ | refine blk_alloc ?_ _)); exact BK201.out) Try.underlying26 rfl (by kernel_rfl)) rfl ?_
        exact ⟨by first | rfl | (simp [errW_none, errW_some] <;> rfl) | (simp [*, errW_none, errW_some] <;> rfl), by repeat (first | (with_reducible first | exact HB.out | apply below_alloc | apply pw_below_drewN | apply below_drew1 | refine below_set ?_ GE201.out | refine below_set ?_ GE202.out) | exact HB.out)⟩

end Go.Proofs.Ytdipinclchkhjaa.P
