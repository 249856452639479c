import Derived.Test.YtdipinclchkhjaaGFnExactCover12
import Derived.Lib.BitFns
import Derived.Test.YtdipinclchkhjaaGFnExactCover8
import Derived.Test.YtdipinclchkhjaaGFnExactCover13
import Derived.Test.YtdipinclchkhjaaGFnExactCover6
import Derived.Test.YtdipinclchkhjaaGFnExactCover9
namespace Go.Proofs.Ytdipinclchkhjaa.P
open Go.RowKit Go.Proofs.YtdipinclchkhjaaW.PrintWords Go.Proofs.YtdipinclchkhjaaW.PrintLast Go.Proofs.YtdipinclchkhjaaW.PrintMore
set_option linter.unusedVariables false
set_option linter.unusedSimpArgs false
/-! How many bits: by bytes. -/
def N8 (a b c d e f g h : Nat) : Nat := a + 256 * (b + 256 * (c + 256 * (d + 256 * (e + 256 * (f + 256 * (g + 256 * h))))))
theorem and_split (p q a b : Nat) (hp : p < 256) (ha : a < 256) : (p + 256 * q) &&& (a + 256 * b) = (p &&& a) + 256 * (q &&& b) := by
  have h1 := Nat.div_add_mod ((p + 256 * q) &&& (a + 256 * b)) (2 ^ 8)
  rw [Nat.and_div_two_pow, Nat.and_mod_two_pow] at h1
  have e1 : (p + 256 * q) / 2 ^ 8 = q := by omega
  have e2 : (a + 256 * b) / 2 ^ 8 = b := by omega
  have e3 : (p + 256 * q) % 2 ^ 8 = p := by omega
  have e4 : (a + 256 * b) % 2 ^ 8 = a := by omega
  rw [e1, e2, e3, e4] at h1
  omega
theorem N8_and {a b c d e f g h a' b' c' d' e' f' g' h' : Nat} (ha : a < 256) (hb : b < 256) (hc : c < 256) (hd : d < 256) (he : e < 256) (hf : f < 256) (hg : g < 256)
    (ha' : a' < 256) (hb' : b' < 256) (hc' : c' < 256) (hd' : d' < 256) (he' : e' < 256) (hf' : f' < 256) (hg' : g' < 256) :
    N8 a b c d e f g h &&& N8 a' b' c' d' e' f' g' h' = N8 (a &&& a') (b &&& b') (c &&& c') (d &&& d') (e &&& e') (f &&& f') (g &&& g') (h &&& h') := by
  unfold N8
  rw [and_split _ _ _ _ ha ha', and_split _ _ _ _ hb hb', and_split _ _ _ _ hc hc', and_split _ _ _ _ hd hd', and_split _ _ _ _ he he', and_split _ _ _ _ hf hf', and_split _ _ _ _ hg hg']
theorem and_lt0 (x y : Nat) (h : x < 18446744073709551616) : x &&& y < 18446744073709551616 := Nat.lt_of_le_of_lt Nat.and_le_left h
def sA (b : Nat) : Nat := ((b / 2) &&& 85) + (b &&& 85)
def sB (b : Nat) : Nat := ((b / 4) &&& 51) + (b &&& 51)
theorem byteA : ∀ b : Fin 256, ∀ t : Fin 2, (b.val / 2 + 128 * t.val) &&& 85 = (b.val / 2) &&& 85 := by decide +kernel
theorem byteB : ∀ b : Fin 256, ∀ t : Fin 4, (b.val / 4 + 64 * t.val) &&& 51 = (b.val / 4) &&& 51 := by decide +kernel
theorem byteL : ∀ b : Fin 256, sA b.val < 256 ∧ sB (sA b.val) ≤ 68 ∧ sB (sA b.val) % 16 ≤ 4 ∧ (sB (sA b.val) / 16 + sB (sA b.val)) % 16 = Lib.popAux 8 b.val ∧ Lib.popAux 8 b.val ≤ 8 := by decide +kernel
theorem N8_add (a b c d e f g h a' b' c' d' e' f' g' h' : Nat) : N8 a b c d e f g h + N8 a' b' c' d' e' f' g' h' = N8 (a + a') (b + b') (c + c') (d + d') (e + e') (f + f') (g + g') (h + h') := by
  unfold N8; omega
theorem N8_half {a b c d e f g h : Nat} : N8 a b c d e f g h / 2 = N8 (a / 2 + 128 * (b % 2)) (b / 2 + 128 * (c % 2)) (c / 2 + 128 * (d % 2)) (d / 2 + 128 * (e % 2)) (e / 2 + 128 * (f % 2)) (f / 2 + 128 * (g % 2)) (g / 2 + 128 * (h % 2)) (h / 2 + 128 * 0) := by
  unfold N8; omega
theorem N8_quarter {a b c d e f g h : Nat} : N8 a b c d e f g h / 4 = N8 (a / 4 + 64 * (b % 4)) (b / 4 + 64 * (c % 4)) (c / 4 + 64 * (d % 4)) (d / 4 + 64 * (e % 4)) (e / 4 + 64 * (f % 4)) (f / 4 + 64 * (g % 4)) (g / 4 + 64 * (h % 4)) (h / 4 + 64 * 0) := by
  unfold N8; omega
theorem N8_nibble {a b c d e f g h : Nat} : N8 a b c d e f g h / 16 = N8 (a / 16 + 16 * (b % 16)) (b / 16 + 16 * (c % 16)) (c / 16 + 16 * (d % 16)) (d / 16 + 16 * (e % 16)) (e / 16 + 16 * (f % 16)) (f / 16 + 16 * (g % 16)) (g / 16 + 16 * (h % 16)) (h / 16 + 16 * 0) := by
  unfold N8; omega
theorem bA {b t : Nat} (hb : b < 256) (ht : t < 2) : (b / 2 + 128 * t) &&& 85 = (b / 2) &&& 85 := byteA ⟨b, hb⟩ ⟨t, ht⟩
theorem bB {b t : Nat} (hb : b < 256) (ht : t < 4) : (b / 4 + 64 * t) &&& 51 = (b / 4) &&& 51 := byteB ⟨b, hb⟩ ⟨t, ht⟩
theorem bL {b : Nat} (hb : b < 256) : sA b < 256 ∧ sB (sA b) ≤ 68 ∧ sB (sA b) % 16 ≤ 4 ∧ (sB (sA b) / 16 + sB (sA b)) % 16 = Lib.popAux 8 b ∧ Lib.popAux 8 b ≤ 8 := byteL ⟨b, hb⟩
theorem stepA {a b c d e f g h : Nat} (ha : a < 256) (hb : b < 256) (hc : c < 256) (hd : d < 256) (he : e < 256) (hf : f < 256) (hg : g < 256) (hh : h < 256) :
    ((N8 a b c d e f g h / 2) &&& 6148914691236517205) + (N8 a b c d e f g h &&& 6148914691236517205) = N8 (sA a) (sA b) (sA c) (sA d) (sA e) (sA f) (sA g) (sA h) := by
  have hm : (6148914691236517205 : Nat) = N8 85 85 85 85 85 85 85 85 := by decide
  rw [hm, N8_half, N8_and (by omega) (by omega) (by omega) (by omega) (by omega) (by omega) (by omega) (by omega) (by omega) (by omega) (by omega) (by omega) (by omega) (by omega),
    N8_and ha hb hc hd he hf hg (by omega) (by omega) (by omega) (by omega) (by omega) (by omega) (by omega), N8_add,
    bA ha (by omega), bA hb (by omega), bA hc (by omega), bA hd (by omega), bA he (by omega), bA hf (by omega), bA hg (by omega), bA hh (by omega)]
  rfl
theorem stepB {a b c d e f g h : Nat} (ha : a < 256) (hb : b < 256) (hc : c < 256) (hd : d < 256) (he : e < 256) (hf : f < 256) (hg : g < 256) (hh : h < 256) :
    ((N8 a b c d e f g h / 4) &&& 3689348814741910323) + (N8 a b c d e f g h &&& 3689348814741910323) = N8 (sB a) (sB b) (sB c) (sB d) (sB e) (sB f) (sB g) (sB h) := by
  have hm : (3689348814741910323 : Nat) = N8 51 51 51 51 51 51 51 51 := by decide
  rw [hm, N8_quarter, N8_and (by omega) (by omega) (by omega) (by omega) (by omega) (by omega) (by omega) (by omega) (by omega) (by omega) (by omega) (by omega) (by omega) (by omega),
    N8_and ha hb hc hd he hf hg (by omega) (by omega) (by omega) (by omega) (by omega) (by omega) (by omega), N8_add,
    bB ha (by omega), bB hb (by omega), bB hc (by omega), bB hd (by omega), bB he (by omega), bB hf (by omega), bB hg (by omega), bB hh (by omega)]
  rfl
theorem and15 (x : Nat) : x &&& 15 = x % 16 := Nat.and_two_pow_sub_one_eq_mod x 4
theorem bC {b t : Nat} (h1 : b ≤ 68) : (b / 16 + 16 * t + b) &&& 15 = (b / 16 + b) % 16 := by rw [and15]; omega
theorem stepC {a b c d e f g h : Nat} (ha : a ≤ 68) (hb : b ≤ 68) (hc : c ≤ 68) (hd : d ≤ 68) (he : e ≤ 68) (hf : f ≤ 68) (hg : g ≤ 68) (hh : h ≤ 68)
    (hb' : b % 16 ≤ 4) (hc' : c % 16 ≤ 4) (hd' : d % 16 ≤ 4) (he' : e % 16 ≤ 4) (hf' : f % 16 ≤ 4) (hg' : g % 16 ≤ 4) (hh' : h % 16 ≤ 4) :
    (N8 a b c d e f g h / 16 + N8 a b c d e f g h) &&& 1085102592571150095 = N8 ((a / 16 + a) % 16) ((b / 16 + b) % 16) ((c / 16 + c) % 16) ((d / 16 + d) % 16) ((e / 16 + e) % 16) ((f / 16 + f) % 16) ((g / 16 + g) % 16) ((h / 16 + h) % 16) := by
  have hm : (1085102592571150095 : Nat) = N8 15 15 15 15 15 15 15 15 := by decide
  rw [hm, N8_nibble, N8_add, N8_and (by omega) (by omega) (by omega) (by omega) (by omega) (by omega) (by omega) (by omega) (by omega) (by omega) (by omega) (by omega) (by omega) (by omega),
    bC ha, bC hb, bC hc, bC hd, bC he, bC hf, bC hg, bC hh]
theorem N8_lt {a b c d e f g h : Nat} (ha : a < 256) (hb : b < 256) (hc : c < 256) (hd : d < 256) (he : e < 256) (hf : f < 256) (hg : g < 256) (hh : h < 256) : N8 a b c d e f g h < 18446744073709551616 := by
  unfold N8; omega
theorem N8_lt68 {a b c d e f g h : Nat} (ha : a ≤ 68) (hb : b ≤ 68) (hc : c ≤ 68) (hd : d ≤ 68) (he : e ≤ 68) (hf : f ≤ 68) (hg : g ≤ 68) (hh : h ≤ 68) : N8 a b c d e f g h < 9223372036854775808 := by
  unfold N8; omega
theorem N8_of (x : Nat) : x = N8 (x % 256) (x / 256 % 256) (x / 65536 % 256) (x / 16777216 % 256) (x / 4294967296 % 256) (x / 1099511627776 % 256) (x / 281474976710656 % 256) (x / 72057594037927936) := by
  unfold N8; omega
theorem pop_more : ∀ (m n x : Nat), Lib.popAux (m + n) x = Lib.popAux m x + Lib.popAux n (x / 2 ^ m)
  | 0, n, x => by simp [Lib.popAux]
  | m + 1, n, x => by
    rw [show m + 1 + n = (m + n) + 1 by omega, Lib.popAux, Lib.popAux, pop_more m n (x / 2), Nat.div_div_eq_div_mul, Nat.pow_succ, Nat.mul_comm 2]
    omega
theorem pop_mod : ∀ (m x : Nat), Lib.popAux m (x % 2 ^ m) = Lib.popAux m x
  | 0, x => rfl
  | m + 1, x => by
    rw [Lib.popAux, Lib.popAux, ← pop_mod m (x / 2)]
    have h1 : x % 2 ^ (m + 1) % 2 = x % 2 := by rw [Nat.pow_succ, Nat.mul_comm]; exact Nat.mod_mul_right_mod x 2 (2 ^ m)
    have h2 : x % 2 ^ (m + 1) / 2 = x / 2 % 2 ^ m := by rw [Nat.pow_succ, Nat.mul_comm]; exact Nat.mod_mul_right_div_self x 2 (2 ^ m)
    rw [h1, h2]
theorem pop8 (n x : Nat) : Lib.popAux (8 + n) x = Lib.popAux 8 (x % 256) + Lib.popAux n (x / 256) := by
  rw [pop_more 8 n x, ← pop_mod 8 x]
theorem pop64 (x : Nat) : Lib.popAux 64 x = Lib.popAux 8 (x % 256) + Lib.popAux 8 (x / 256 % 256) + Lib.popAux 8 (x / 65536 % 256) + Lib.popAux 8 (x / 16777216 % 256) + Lib.popAux 8 (x / 4294967296 % 256) + Lib.popAux 8 (x / 1099511627776 % 256) + Lib.popAux 8 (x / 281474976710656 % 256) + Lib.popAux 8 (x / 72057594037927936) := by
  have e1 := pop8 56 x
  have e2 := pop8 48 (x / 256)
  have e3 := pop8 40 (x / 256 / 256)
  have e4 := pop8 32 (x / 256 / 256 / 256)
  have e5 := pop8 24 (x / 256 / 256 / 256 / 256)
  have e6 := pop8 16 (x / 256 / 256 / 256 / 256 / 256)
  have e7 := pop8 8 (x / 256 / 256 / 256 / 256 / 256 / 256)
  simp only [Nat.reduceAdd, Nat.div_div_eq_div_mul, Nat.reduceMul] at e1 e2 e3 e4 e5 e6 e7
  omega
theorem and_i64 (a b : Nat) (ha : a < 9223372036854775808) (hb : b < 9223372036854775808) : bits .and .i64 (a : Int) (b : Int) = ((a &&& b : Nat) : Int) := by
  have h1 : (a &&& b) < 9223372036854775808 := Nat.lt_of_le_of_lt Nat.and_le_left ha
  have ha2 : a < 2 ^ IntKind.i64.bits := by have : a < 18446744073709551616 := by omega
                                            simpa [IntKind.bits] using this
  have hb2 : b < 2 ^ IntKind.i64.bits := by have : b < 18446744073709551616 := by omega
                                            simpa [IntKind.bits] using this
  simp only [bits, BitVec.ofInt_natCast, BitVec.toNat_and, BitVec.toNat_ofNat, Nat.mod_eq_of_lt ha2, Nat.mod_eq_of_lt hb2]
  generalize a &&& b = c at h1
  simp only [IntKind.wrap, IntKind.bits, IntKind.signed]
  simp
  omega
theorem tail_is (c : Nat) (a b d e f g h i : Nat) (hc : c = N8 a b d e f g h i) (ha : a ≤ 8) (hb : b ≤ 8) (hd : d ≤ 8) (he : e ≤ 8) (hf : f ≤ 8) (hg : g ≤ 8) (hh : h ≤ 8) (hi : i ≤ 8) :
    ∃ D E F : Nat, D = c + c / 256 ∧ E = D + D / 65536 ∧ F = E + E / 4294967296 ∧ D < 9223372036854775808 ∧ E < 9223372036854775808 ∧ F < 9223372036854775808 ∧ F % 128 = a + b + d + e + f + g + h + i := by
  have h1 : c / 256 = N8 b d e f g h i 0 := by rw [hc]; unfold N8; omega
  obtain ⟨D, hD⟩ : ∃ D, D = c + c / 256 := ⟨_, rfl⟩
  have hD2 : D = N8 (a + b) (b + d) (d + e) (e + f) (f + g) (g + h) (h + i) i := by rw [hD, h1, hc, N8_add, Nat.add_zero]
  have h2 : D / 65536 = N8 (d + e) (e + f) (f + g) (g + h) (h + i) i 0 0 := by rw [hD2]; unfold N8; omega
  obtain ⟨E, hE⟩ : ∃ E, E = D + D / 65536 := ⟨_, rfl⟩
  have hE2 : E = N8 (a + b + (d + e)) (b + d + (e + f)) (d + e + (f + g)) (e + f + (g + h)) (f + g + (h + i)) (g + h + i) (h + i) i := by rw [hE, h2, hD2, N8_add]; simp only [Nat.add_zero]
  have h3 : E / 4294967296 = N8 (f + g + (h + i)) (g + h + i) (h + i) i 0 0 0 0 := by rw [hE2]; unfold N8; omega
  obtain ⟨F, hF⟩ : ∃ F, F = E + E / 4294967296 := ⟨_, rfl⟩
  have hF2 : F = N8 (a + b + (d + e) + (f + g + (h + i))) (b + d + (e + f) + (g + h + i)) (d + e + (f + g) + (h + i)) (e + f + (g + h) + i) (f + g + (h + i)) (g + h + i) (h + i) i := by rw [hF, h3, hE2, N8_add]; simp only [Nat.add_zero]
  refine ⟨D, E, F, hD, hE, hF, ?_, ?_, ?_, ?_⟩
  · rw [hD2]; unfold N8; omega
  · rw [hE2]; unfold N8; omega
  · rw [hF2]; unfold N8; omega
  · rw [hF2]; unfold N8; omega
theorem pop_chain (x A B C D E F : Nat) (hx : x < 18446744073709551616) (hA : A = ((x / 2) &&& 6148914691236517205) + (x &&& 6148914691236517205)) (hB : B = ((A / 4) &&& 3689348814741910323) + (A &&& 3689348814741910323))
    (hC : C = (B / 16 + B) &&& 1085102592571150095) (hD : D = C + C / 256) (hE : E = D + D / 65536) (hF : F = E + E / 4294967296)
    (lA : A < 18446744073709551616) (lB : B < 9223372036854775808) (lD : D < 9223372036854775808) (lE : E < 9223372036854775808) (lF : F < 9223372036854775808) :
    bits_OnesCount64.f (x : Int) = some ((F % 128 : Nat) : Int) := by
  have a1 : bits .and .u64 ((x : Int) / 2) 6148914691236517205 = (((x / 2) &&& 6148914691236517205 : Nat) : Int) := and64 (x / 2) 6148914691236517205 (by omega) (by decide)
  have a2 : bits .and .u64 (x : Int) 6148914691236517205 = ((x &&& 6148914691236517205 : Nat) : Int) := and64 x 6148914691236517205 hx (by decide)
  have a3 : IntKind.u64.wrap ((((x / 2) &&& 6148914691236517205 : Nat) : Int) + ((x &&& 6148914691236517205 : Nat) : Int)) = (A : Int) := by
    rw [← Int.natCast_add, ← hA]
    clear hA hB hC hD hE hF
    rw [wrap_u64_id (by omega) (by omega)]
  have b1' : bits .and .u64 ((A : Int) / 4) 3689348814741910323 = (((A / 4) &&& 3689348814741910323 : Nat) : Int) := and64 (A / 4) 3689348814741910323 (Nat.lt_of_le_of_lt (Nat.div_le_self _ _) lA) (by decide)
  have b2' : bits .and .u64 (A : Int) 3689348814741910323 = ((A &&& 3689348814741910323 : Nat) : Int) := and64 A 3689348814741910323 lA (by decide)
  have b3' : IntKind.u64.wrap ((((A / 4) &&& 3689348814741910323 : Nat) : Int) + ((A &&& 3689348814741910323 : Nat) : Int)) = (B : Int) := by
    rw [← Int.natCast_add, ← hB]
    clear hA hB hC hD hE hF
    rw [wrap_u64_id (by omega) (by omega)]
  have c1 : IntKind.u64.wrap ((B : Int) / 16 + (B : Int)) = ((B / 16 + B : Nat) : Int) := by
    clear hA hB hC hD hE hF a1 a2 a3 b1' b2' b3'
    rw [wrap_u64_id (by omega) (by omega)]
    omega
  have c2 : bits .and .u64 ((B / 16 + B : Nat) : Int) 1085102592571150095 = (C : Int) := by
    rw [hC]
    exact and64 (B / 16 + B) 1085102592571150095 (by clear hA hB hC hD hE hF a1 a2 a3 b1' b2' b3' c1; omega) (by decide)
  have d1 : IntKind.u64.wrap ((C : Int) + (C : Int) / 256) = (D : Int) := by
    have : (C : Int) + (C : Int) / 256 = (D : Int) := by clear hA hB hC hE hF a1 a2 a3 b1' b2' b3' c1 c2; omega
    rw [this]
    exact wrap_u64_id (Int.natCast_nonneg _) (by clear hA hB hC hD hE hF a1 a2 a3 b1' b2' b3' c1 c2; omega)
  have e1 : IntKind.u64.wrap ((D : Int) + (D : Int) / 65536) = (E : Int) := by
    have : (D : Int) + (D : Int) / 65536 = (E : Int) := by clear hA hB hC hD hF a1 a2 a3 b1' b2' b3' c1 c2 d1; omega
    rw [this]
    exact wrap_u64_id (Int.natCast_nonneg _) (by clear hA hB hC hD hE hF a1 a2 a3 b1' b2' b3' c1 c2 d1; omega)
  have f1 : IntKind.u64.wrap ((E : Int) + (E : Int) / 4294967296) = (F : Int) := by
    have : (E : Int) + (E : Int) / 4294967296 = (F : Int) := by clear hA hB hC hD hE a1 a2 a3 b1' b2' b3' c1 c2 d1 e1; omega
    rw [this]
    exact wrap_u64_id (Int.natCast_nonneg _) (by clear hA hB hC hD hE hF a1 a2 a3 b1' b2' b3' c1 c2 d1 e1; omega)
  have g1 : bits .and .i64 (F : Int) 127 = ((F % 128 : Nat) : Int) := by
    rw [← Nat.and_two_pow_sub_one_eq_mod F 7]
    exact and_i64 F 127 lF (by decide)
  have w1 : wrap64 (F : Int) = (F : Int) := wrap64_id (by clear hA hB hC hD hE hF a1 a2 a3 b1' b2' b3' c1 c2 d1 e1 f1 g1; omega) (by clear hA hB hC hD hE hF a1 a2 a3 b1' b2' b3' c1 c2 d1 e1 f1 g1; omega)
  clear hA hB hC hD hE hF lA lB lD lE lF
  unfold bits_OnesCount64.f
  rw [a1, a2, a3, b1', b2', b3', c1, c2, d1, e1, f1, w1, g1]
theorem onesCount64_is (x : Nat) (hx : x < 18446744073709551616) : bits_OnesCount64.f (x : Int) = some ((Lib.popAux 64 x : Nat) : Int) := by
  have hx8 := N8_of x
  have hp := pop64 x
  have l0 : x % 256 < 256 := Nat.mod_lt _ (by decide)
  have l1 : x / 256 % 256 < 256 := Nat.mod_lt _ (by decide)
  have l2 : x / 65536 % 256 < 256 := Nat.mod_lt _ (by decide)
  have l3 : x / 16777216 % 256 < 256 := Nat.mod_lt _ (by decide)
  have l4 : x / 4294967296 % 256 < 256 := Nat.mod_lt _ (by decide)
  have l5 : x / 1099511627776 % 256 < 256 := Nat.mod_lt _ (by decide)
  have l6 : x / 281474976710656 % 256 < 256 := Nat.mod_lt _ (by decide)
  have l7 : x / 72057594037927936 < 256 := Nat.div_lt_of_lt_mul hx
  generalize x % 256 = b0 at hx8 hp l0
  generalize x / 256 % 256 = b1 at hx8 hp l1
  generalize x / 65536 % 256 = b2 at hx8 hp l2
  generalize x / 16777216 % 256 = b3 at hx8 hp l3
  generalize x / 4294967296 % 256 = b4 at hx8 hp l4
  generalize x / 1099511627776 % 256 = b5 at hx8 hp l5
  generalize x / 281474976710656 % 256 = b6 at hx8 hp l6
  generalize x / 72057594037927936 = b7 at hx8 hp l7
  obtain ⟨p0, q0, r0, s0, t0⟩ := bL l0
  obtain ⟨p1, q1, r1, s1, t1⟩ := bL l1
  obtain ⟨p2, q2, r2, s2, t2⟩ := bL l2
  obtain ⟨p3, q3, r3, s3, t3⟩ := bL l3
  obtain ⟨p4, q4, r4, s4, t4⟩ := bL l4
  obtain ⟨p5, q5, r5, s5, t5⟩ := bL l5
  obtain ⟨p6, q6, r6, s6, t6⟩ := bL l6
  obtain ⟨p7, q7, r7, s7, t7⟩ := bL l7
  obtain ⟨A, hA⟩ : ∃ A, A = ((x / 2) &&& 6148914691236517205) + (x &&& 6148914691236517205) := ⟨_, rfl⟩
  have hA2 := stepA l0 l1 l2 l3 l4 l5 l6 l7
  rw [← hx8, ← hA] at hA2
  obtain ⟨B, hB⟩ : ∃ B, B = ((A / 4) &&& 3689348814741910323) + (A &&& 3689348814741910323) := ⟨_, rfl⟩
  have hB2 := stepB p0 p1 p2 p3 p4 p5 p6 p7
  rw [← hA2, ← hB] at hB2
  obtain ⟨C, hC⟩ : ∃ C, C = (B / 16 + B) &&& 1085102592571150095 := ⟨_, rfl⟩
  have hC2 := stepC q0 q1 q2 q3 q4 q5 q6 q7 r1 r2 r3 r4 r5 r6 r7
  rw [← hB2, ← hC, s0, s1, s2, s3, s4, s5, s6, s7] at hC2
  obtain ⟨D, E, F, hD, hE, hF, lD, lE, lF, hlast⟩ := tail_is C _ _ _ _ _ _ _ _ hC2 t0 t1 t2 t3 t4 t5 t6 t7
  have lA : A < 18446744073709551616 := by rw [hA2]; exact N8_lt p0 p1 p2 p3 p4 p5 p6 p7
  have lB : B < 9223372036854775808 := by rw [hB2]; exact N8_lt68 q0 q1 q2 q3 q4 q5 q6 q7
  rw [pop_chain x A B C D E F hx hA hB hC hD hE hF lA lB lD lE lF, hlast, hp]
end Go.Proofs.Ytdipinclchkhjaa.P

namespace Go.Proofs.Ytdipinclchkhjaa.P
open Go.RowKit Go.Proofs.YtdipinclchkhjaaW.PrintWords Go.Proofs.YtdipinclchkhjaaW.PrintLast Go.Proofs.YtdipinclchkhjaaW.PrintMore
set_option linter.unusedVariables false
set_option linter.unusedSimpArgs false
/-! A cover: what differs, the least, the greatest. -/
def ints (ln : List Nat) : List Int := ln.map fun v : Nat => (v : Int)
theorem ints_length (ln : List Nat) : (ints ln).length = ln.length := by simp [ints]
theorem ints_rd (ln : List Nat) (i : Nat) (h : i < ln.length) : rd (ints ln) (i : Int) = (ln[i] : Int) := by
  rw [rd_eq _ _ (by rw [ints_length]; exact h)]
  simp [ints]
theorem ints_of (l : List Int) (h : ∀ x ∈ l, (Lit.int .u64 x).wf = true) : ∃ ln : List Nat, l = ints ln ∧ ∀ v ∈ ln, v < 18446744073709551616 := by
  refine ⟨l.map Int.toNat, ?_, ?_⟩
  · unfold ints
    rw [List.map_map]
    conv => lhs; rw [← List.map_id l]
    refine List.map_congr_left fun x hx => ?_
    have := wf_u64 (h x hx)
    simp only [id, Function.comp]
    omega
  · intro v hv
    obtain ⟨x, hx, rfl⟩ := List.mem_map.1 hv
    have := wf_u64 (h x hx)
    omega
def dif (v0 : Nat) (ln : List Nat) : Nat := ln.foldl (fun acc v => acc ||| (v ^^^ v0)) 0
theorem dif_next (v0 : Nat) (ln : List Nat) (i : Nat) (h : i < ln.length) : dif v0 (ln.take (i + 1)) = dif v0 (ln.take i) ||| (ln[i] ^^^ v0) := by
  unfold dif
  rw [← List.take_append_getElem h, List.foldl_append]
  rfl
theorem dif_lt (v0 : Nat) (h0 : v0 < 18446744073709551616) (ln : List Nat) (h : ∀ v ∈ ln, v < 18446744073709551616) : dif v0 ln < 18446744073709551616 := by
  have key : ∀ (ln : List Nat) (acc : Nat), acc < 18446744073709551616 → (∀ v ∈ ln, v < 18446744073709551616) → ln.foldl (fun acc v => acc ||| (v ^^^ v0)) acc < 18446744073709551616 := by
    intro ln
    induction ln with
    | nil => intro acc h1 _; exact h1
    | cons v ln ih =>
      intro acc h1 h2
      refine ih _ ?_ fun x hx => h2 x (List.mem_cons_of_mem _ hx)
      exact Nat.or_lt_two_pow (n := 64) h1 (Nat.xor_lt_two_pow (n := 64) (h2 v (List.mem_cons_self ..)) h0)
  exact key ln 0 (by decide) h
theorem dif_bit (v0 : Nat) (ln : List Nat) (i : Nat) : (dif v0 ln).testBit i = false ↔ ∀ v ∈ ln, v.testBit i = v0.testBit i := by
  have key : ∀ (ln : List Nat) (acc : Nat), (ln.foldl (fun acc v => acc ||| (v ^^^ v0)) acc).testBit i = false ↔ acc.testBit i = false ∧ ∀ v ∈ ln, v.testBit i = v0.testBit i := by
    intro ln
    induction ln with
    | nil => intro acc; simp
    | cons v ln ih =>
      intro acc
      rw [List.foldl_cons, ih, Nat.testBit_or, Nat.testBit_xor, List.forall_mem_cons]
      cases acc.testBit i <;> cases v.testBit i <;> cases v0.testBit i <;> simp
  unfold dif
  rw [key]
  simp
theorem shl_is (k : Nat) (h : k < 64) : shl .u64 1 (k : Int) = ((2 ^ k : Nat) : Int) := by
  have hp := two_pow_lt k h
  unfold shl
  have : min (k : Int).toNat IntKind.u64.bits = k := by simp [IntKind.bits]; omega
  rw [this, Int.one_mul]
  have e : ((2 : Int) ^ k) = ((2 ^ k : Nat) : Int) := by simp
  rw [e, wrap_u64_id (by omega) (by omega)]
theorem pow_bit (m i : Nat) (hm : m < 18446744073709551616) (hi : i < 64) : bits .and .u64 (m : Int) ((2 ^ i : Nat) : Int) = if m.testBit i = true then ((2 ^ i : Nat) : Int) else 0 := by
  have hp := two_pow_lt i hi
  rw [and64 m _ hm (by omega), and_pow]
  split <;> rfl
theorem pop_le : ∀ (m x : Nat), Lib.popAux m x ≤ m
  | 0, x => Nat.le_refl _
  | m + 1, x => by
    rw [Lib.popAux]
    have := pop_le m (x / 2)
    omega
theorem pop_next (i x : Nat) : Lib.popAux (i + 1) x = Lib.popAux i x + if x.testBit i = true then 1 else 0 := by
  rw [pop_more i 1 x]
  congr 1
  rw [Nat.testBit_eq_decide_div_mod_eq]
  simp only [Lib.popAux, decide_eq_true_eq]
  split <;> omega
/-- What the reference's count of free bits says. -/
theorem l4more_is (D : Nat) (hD : D < 18446744073709551616) : Ev (fun n => spec_l4more.f n ((18446744073709551615 - D : Nat) : Int)) ((2 ^ Lib.popAux 64 D - 1 : Nat) : Int) := by
  have key := ev_loop (fun n (s : Int) i => spec_l4more.l0 n ((18446744073709551615 - D : Nat) : Int) s i) 64 (fun i => ((2 ^ Lib.popAux i D - 1 : Nat) : Int)) 0 _ (by simp [Lib.popAux]) rfl (fun i hi r hr => by
    have hle := pop_le i D
    have hp := two_pow_lt (Lib.popAux i D) (by omega)
    have hp' := two_pow_lt i hi
    refine ev_step _ (fun n => ?_) hr
    simp only [spec_l4more.l0]
    have hw : IntKind.u64.wrap (i : Int) = (i : Int) := wrap_u64_id (by omega) (by omega)
    have hbit : bits .and .u64 ((18446744073709551615 - D : Nat) : Int) ((2 ^ i : Nat) : Int) = if D.testBit i = true then 0 else ((2 ^ i : Nat) : Int) := by
      rw [pow_bit _ i (by omega) hi, tb_not D i hD]
      cases D.testBit i <;> simp [hi]
    rw [if_pos (by omega), hw, if_pos (by omega), shl_is i hi, hbit, wrap64_id (by omega) (by omega), pop_next i D]
    by_cases hb : D.testBit i = true
    · rw [if_pos hb, if_pos rfl, if_pos hb, Nat.pow_succ]
      have e1 : IntKind.u64.wrap (((2 ^ Lib.popAux i D - 1 : Nat) : Int) * 2) = ((2 ^ Lib.popAux i D - 1 : Nat) : Int) * 2 := wrap_u64_id (by omega) (by omega)
      rw [e1, wrap_u64_id (by omega) (by omega)]
      congr 1
      omega
    · rw [if_neg hb, if_neg (by omega), if_neg hb, Nat.add_zero]
      rfl)
  refine Ev.congr (fun n => ?_) (key _ (ev_end fun n => by simp only [spec_l4more.l0]; rw [if_neg (by decide)]))
  rfl
end Go.Proofs.Ytdipinclchkhjaa.P
