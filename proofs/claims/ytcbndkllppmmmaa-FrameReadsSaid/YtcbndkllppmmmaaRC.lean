/- Bytes of a number: no sum of the first ones is that of more. Own lemmas, no program in sight. -/
import Derived.Test.YtcbndkllppmmmaaRCa
import Derived.Test.YtcbndkllppmmmaaP1
namespace Go.Proofs.YtcbndkllppmmmaaX
set_option linter.unusedVariables false
set_option linter.unusedSimpArgs false
open Go Go.RowKit

theorem wrap_256 (x : Int) : IntKind.i64.wrap x % 256 = x % 256 := by
  rw [IntKind.wrap_i64]
  omega
theorem or_one (a : Nat) : a ||| 1 = 2 * (a / 2) + 1 := by
  have h1 : (a ||| 1) % 2 = 1 := by rw [Nat.or_mod_two_eq_one]; exact .inr rfl
  have h2 : (a ||| 1) / 2 = a / 2 := by rw [Nat.or_div_two]; simp
  omega
theorem or1_256 (z : Int) : bitop .or .i64 (IntKind.i64.wrap z) 1 % 256 = (2 * (z / 2) + 1) % 256 := by
  show IntKind.i64.wrap (((BitVec.ofInt 64 (IntKind.i64.wrap z)) ||| (BitVec.ofInt 64 1)).toNat : Int) % 256 = _
  rw [wrap_256, BitVec.toNat_or, show (BitVec.ofInt 64 1).toNat = 1 from rfl, or_one, BitVec.toNat_ofInt, IntKind.wrap_i64]
  omega
theorem u8_congr {a b : Int} (h : a % 256 = b % 256) : u8 a = u8 b := by unfold u8; rw [h]
theorem byteAt_eq {n c d : Int} (hc : n % 256 = c % 256) (hd : (2 * (n.tdiv 5 / 2) + 1) % 256 = d % 256) (i : Nat) : byteAt n i = u8 (c + (i : Int) * d) := by
  unfold byteAt
  have hD := or1_256 (n.tdiv 5)
  generalize bitop .or .i64 (IntKind.i64.wrap (n.tdiv 5)) 1 = D at hD ⊢
  apply u8_congr
  rw [wrap_256, Int.add_emod, wrap_256, ← Int.add_emod]
  obtain ⟨q, hq⟩ : ∃ q, D = d + 256 * q := ⟨(D - d) / 256, by omega⟩
  rw [hq, Int.mul_add, show (i : Int) * (256 * q) = 256 * ((i : Int) * q) by rw [Int.mul_left_comm]]
  omega
theorem apB_map (d : Nat) : ∀ (k cur : Nat), apB d cur k = (List.range k).map fun (i : Nat) => u8 ((cur : Int) + (i : Int) * (d : Int))
  | 0, _ => rfl
  | k + 1, cur => by
    rw [List.range_succ_eq_map, List.map_cons, List.map_map]
    show u8 (cur : Int) :: apB d (cur + d) k = _
    rw [apB_map d k]
    refine congr (congrArg _ (u8_congr (by simp))) (List.map_congr_left fun i _ => u8_congr ?_)
    show (((cur + d : Nat) : Int) + (i : Int) * (d : Int)) % 256 = ((cur : Int) + ((i + 1 : Nat) : Int) * (d : Int)) % 256
    rw [Int.natCast_add i 1, Int.add_mul]
    generalize (i : Int) * (d : Int) = z
    omega
theorem bytes_ap {n : Int} {c d : Nat} (hc : n % 256 = (c : Int) % 256) (hd : (2 * (n.tdiv 5 / 2) + 1) % 256 = (d : Int) % 256) (L : Nat) : (List.range L).map (byteAt n) = apB d c L := by
  rw [apB_map]
  exact List.map_congr_left fun i _ => byteAt_eq hc hd i
theorem bytes_seed (n : Int) : ∃ c d, chkF c d = true ∧ ∀ L, (List.range L).map (byteAt n) = apB d c L := by
  by_cases hn : 0 ≤ n
  · have hr : (n % 1280).toNat < 1280 := by omega
    refine ⟨_, _, (all_chk hr).1, bytes_ap ?_ ?_⟩
    · show n % 256 = (((n % 1280).toNat % 256 : Nat) : Int) % 256
      omega
    · show _ = ((2 * ((n % 1280).toNat / 10) + 1 : Nat) : Int) % 256
      rw [Int.tdiv_eq_ediv_of_nonneg hn]
      omega
  · have hr : (-n % 1280).toNat < 1280 := by omega
    refine ⟨_, _, (all_chk hr).2, bytes_ap ?_ ?_⟩
    · show n % 256 = ((1280 - (-n % 1280).toNat : Nat) : Int) % 256
      omega
    · show _ = ((257 - 2 * (((-n % 1280).toNat + 5) / 10) : Nat) : Int) % 256
      have e : n.tdiv 5 = -((-n) / 5) := by
        rw [← Int.tdiv_eq_ediv_of_nonneg (show 0 ≤ -n by omega), Int.neg_tdiv, Int.neg_neg]
      rw [e]
      omega
/-- The first bytes of a record have another sum than all. -/
theorem bytes_sum {n size : Int} (h1 : 16 ≤ size) (h2 : size ≤ 99) : sumN ((bytesOf n size).take 15) ≠ sumN (bytesOf n size) := by
  obtain ⟨c, d, hc, h⟩ := bytes_seed n
  intro he
  have he := sumN_inj he
  unfold bytesOf at he
  rw [h, show size.toNat = 15 + (size.toNat - 15) by omega, apB_split, List.take_append_of_le_length (by rw [← h]; simp), List.take_of_length_le (by rw [← h]; simp), ← apB_split, show 15 + (size.toNat - 15) = size.toNat by omega] at he
  exact chkF_ok hc (by omega) (by omega) he.symm
end Go.Proofs.YtcbndkllppmmmaaX
