/- What may be put in a sector's place: in plain words. Own lemmas, no program in sight. -/
import Derived.Test.YtcbndkllppmmmaaRD
namespace Go.Proofs.YtcbndkllppmmmaaX
set_option linter.unusedVariables false
set_option linter.unusedSimpArgs false
open Go Go.RowKit

def ZR (h : Int) (b : List UInt8) (k0 : Nat) (z : List UInt8) : Prop :=
  (h = 0 ∧ ∃ (i : Nat) (c : UInt8), i < 32 ∧ i ≠ 7 ∧ c ≠ (secB 3 7 b k0).getD i 0 ∧ z = (secB 3 7 b k0).set i c) ∨
  (h = 1 ∧ z = sealB 3 8 (k0 : Int) (needN b.length : Nat) (partB b k0)) ∨ (h = 2 ∧ needN b.length = 1 ∧ z = zr32) ∨
  (h = 2 ∧ needN b.length ≠ 1 ∧ z = sealB 4 7 (k0 : Int) (needN b.length : Nat) (partB b k0)) ∨
  (h ≠ 0 ∧ h ≠ 1 ∧ h ≠ 2 ∧ z = sealB 3 7 (k0 : Int) ((needN b.length : Nat) + 1) (partB b k0))
theorem ZR.len {h : Int} {b z : List UInt8} {k0 : Nat} (hk : k0 < needN b.length) (hn : needN b.length ≤ 6) (hz : ZR h b k0 z) : z.length = 32 := by
  have hp := partB_len b k0
  rcases hz with ⟨_, i, c, _, _, _, rfl⟩ | ⟨_, rfl⟩ | ⟨_, _, rfl⟩ | ⟨_, _, rfl⟩ | ⟨_, _, _, rfl⟩
  · rw [List.length_set]; exact secB_len (by decide) (by omega) hk
  · exact sealB_length hp
  · rfl
  · exact sealB_length hp
  · exact sealB_length hp
theorem seal_as {b : List UInt8} {k0 : Nat} {e q n : Int} (he : 0 ≤ e ∧ e < 65536) (hq : 0 ≤ q ∧ q < 16777216) (hk : k0 < needN b.length) (hn : ((needN b.length : Nat) : Int) ≤ n ∧ n ≤ 255) : sealM e q (k0 : Int) n (partB b k0) = true :=
  sealM_of he hq ⟨by omega, by omega, hn.2⟩ (partB_len b k0)
/-- A sector of another part. -/
theorem reads_part {S : DS} {a : Int} {b s' : List UInt8} {k0 : Nat} (h : Spoilt S a b s' k0) (hb : bat s' 5 ≠ k0) {r : Int × Int × List UInt8 × Int × Int} (hr : FrR S a 12 r) : r = (0, 0, [], 0, 2) := by
  have h1 := h.lo
  have h2 := h.hi
  have hn := need_room b.length
  have hhere := h.here
  unfold FrR at hr
  rw [if_neg (by rw [h.size]; omega)] at hr
  obtain ⟨ge, gq, gb, parts, ger, hg, rfl⟩ := hr
  rcases hg with ⟨h3, _⟩ | ⟨_, ⟨n, h3, h4, h5, _⟩ | ⟨k, _, _, _, _, _, _, _, h8⟩⟩
  · rw [h.up] at h3; cases h3
  · exfalso
    have hkn : k0 < n := by
      by_cases hk : k0 = 0
      · omega
      · have e0 := h.o (j := 0) (by omega) (by omega)
        rw [e0] at h4
        dsimp only at h4
        omega
    obtain ⟨ho, ek⟩ := h.me (h5 k0 hkn).2.1
    have := (h5 k0 hkn).2.2.2.1
    rw [ek] at this
    exact hb this
  · rw [h8]
    exact readEnd_err
theorem reads_z {S : DS} {a h : Int} {b z : List UInt8} {k0 : Nat} (hz : ZR h b k0 z) (hno : ¬ (h = 1 ∧ needN b.length = 1)) (hs : Spoilt S a b z k0) (hsum : 16 ≤ b.length → sumN (b.take 15) ≠ sumN b) {r : Int × Int × List UInt8 × Int × Int} (hr : FrR S a 12 r) : r = (0, 0, [], 0, 2) := by
  have hk := hs.here
  have hn := hs.few
  have hnr := need_room b.length
  rcases hz with ⟨_, i, c, hi, h7, hc, rfl⟩ | ⟨h1, rfl⟩ | ⟨_, _, rfl⟩ | ⟨_, hN, rfl⟩ | ⟨_, _, _, rfl⟩
  · have hm : sealM 3 7 (k0 : Int) (needN b.length : Nat) (partB b k0) = true := seal_as (by decide) (by decide) hk (by omega)
    rcases turned hm hi h7 hc with ht | ht | ⟨_, ht, hbo⟩ | ⟨_, h8, h9, ht⟩
    · exact reads_bad hs (.inl ht) (fun _ _ _ ho => by rw [show secB 3 7 b k0 = _ from rfl, show openOk ((secB 3 7 b k0).set i c) = false from ht] at ho; cases ho) hr
    · exact reads_part hs ht hr
    · refine reads_bad hs (.inr (.inr (.inl ht))) (fun h0 h1 _ _ => ?_) hr
      subst h0
      exact ⟨hbo, hsum (by omega)⟩
    · rw [show (secB 3 7 b k0).set i c = _ from ht] at hs
      exact reads_turned hs h8 h9 hr
  · have hm : sealM 3 8 (k0 : Int) (needN b.length : Nat) (partB b k0) = true := seal_as (by decide) (by decide) hk (by omega)
    obtain ⟨o1, o2, o3, o4, _, _⟩ := sealB_open hm
    refine reads_bad hs (.inr (.inr (.inr ⟨fun h => hno ⟨h1, h⟩, by rw [o2]; exact fun h => absurd h.2 (by decide)⟩))) (fun _ h2 h3 _ => ?_) hr
    rw [o4] at h3
    omega
  · exact reads_bad hs (.inl (by decide)) (fun _ _ _ ho => absurd ho (by decide)) hr
  · have hm : sealM 4 7 (k0 : Int) (needN b.length : Nat) (partB b k0) = true := seal_as (by decide) (by decide) hk (by omega)
    obtain ⟨o1, o2, o3, o4, _, _⟩ := sealB_open hm
    refine reads_bad hs (.inr (.inr (.inr ⟨hN, by rw [o1]; exact fun h => absurd h.1 (by decide)⟩))) (fun _ h2 h3 _ => ?_) hr
    rw [o4] at h3
    omega
  · have hm : sealM 3 7 (k0 : Int) ((needN b.length : Nat) + 1) (partB b k0) = true := seal_as (by decide) (by decide) hk (by omega)
    obtain ⟨o1, o2, o3, o4, _, _⟩ := sealB_open hm
    refine reads_bad hs (.inr (.inr (.inl (by rw [o4]; omega)))) (fun _ h2 h3 _ => ?_) hr
    rw [o4] at h3
    omega
theorem read_put {S : DS} {a p : Int} {z : List UInt8} : readR { S with pend := S.pend ++ [(a, z)] } p = if a = p then z else readR S p := by
  unfold readR
  rw [List.foldl_append]
  rfl
/-- A disk with a record and nothing else. -/
def recS (a : Int) (b : List UInt8) : DS := { newR 12 with pend := (newR 12).pend ++ putP a (secB 3 7 b) (needN b.length) }
theorem recS_ok (a : Int) {b : List UInt8} (hb : needN b.length ≤ 6) (h0 : 0 ≤ a) (h1 : a ≤ 3) : Up (recS a b) ∧ (recS a b).secs.length = 12 ∧ Holds (recS a b) a 3 7 b ∧ readR (recS a b) (a + (needN b.length : Nat)) = zr32 ∧ (recS a b).pend.length ≤ 6 := by
  refine ⟨⟨rfl, rfl⟩, rfl, fw_holds (by decide) (by omega), ?_, ?_⟩
  · unfold recS
    rw [read_out (.inr (Int.le_refl _))]
    show (List.replicate 12 zr32).getD _ [] = _
    rw [List.getD_eq_getElem?_getD, List.getElem?_replicate, if_pos (by omega)]
    rfl
  · show ([] ++ putP _ _ _).length ≤ 6
    rw [List.nil_append, putP_len]
    exact hb
theorem spoilt_of {a : Int} {b z : List UInt8} {k0 : Nat} (hb : needN b.length ≤ 6) (h0 : 0 ≤ a) (h1 : a ≤ 3) (hk : k0 < needN b.length) : Spoilt { recS a b with pend := (recS a b).pend ++ [(a + (k0 : Int), z)] } a b z k0 := by
  obtain ⟨hu, hl, hh, hz, _⟩ := recS_ok a hb h0 h1
  refine ⟨hu.1, hl, h0, h1, hb, hk, fun j hj hne => ?_, ?_, ?_⟩
  · rw [read_put, if_neg (by omega)]
    exact hh.2.2 j hj
  · rw [read_put, if_pos rfl]
  · rw [read_put, if_neg (by omega)]
    exact hz
theorem fr_out {S : DS} {a e : Int} (h : a < 0 ∨ e ≤ a ∨ (S.secs.length : Int) < e) {r : Int × Int × List UInt8 × Int × Int} (hr : FrR S a e r) : r = (0, 0, [], 0, 9) := by
  unfold FrR at hr
  rw [if_pos h] at hr
  exact hr
theorem fr_short {S : DS} {a e q : Int} {b : List UInt8} (h : Holds S a e q b) (hd : S.down = false) (h0 : 0 ≤ a) (hl : a + (needN b.length : Nat) ≤ S.secs.length) {r : Int × Int × List UInt8 × Int × Int} (hr : FrR S a (a + (needN b.length : Nat) - 1) r) : r.2.2.2.2 ≠ 0 := by
  by_cases h1 : a + (needN b.length : Nat) - 1 ≤ a
  · rw [fr_out (.inr (.inl h1)) hr]
    decide
  · unfold FrR at hr
    rw [if_neg (by omega)] at hr
    obtain ⟨ge, gq, gb, parts, ger, hg, rfl⟩ := hr
    rw [h.short hd (by omega) (by omega) hg, readEnd_err]
    decide
theorem xor_ne {a : UInt8} {x : Int} (h : 0 ≤ x ∧ x < 255) : a ^^^ u8 (1 + x) ≠ a := by
  intro he
  have h1 := congrArg UInt8.toNat he
  rw [UInt8.toNat_xor] at h1
  have h2 : (u8 (1 + x)).toNat = 0 := by
    have h3 : a.toNat ^^^ (u8 (1 + x)).toNat = a.toNat ^^^ 0 := by rw [h1, Nat.xor_zero]
    exact xor_cancel' h3
  have h4 := u8_toNat (1 + x)
  omega
end Go.Proofs.YtcbndkllppmmmaaX
