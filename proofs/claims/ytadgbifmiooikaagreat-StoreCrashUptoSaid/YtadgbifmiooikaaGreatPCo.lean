/- Parts of a proof, joined: walks through the program's functions and their laws, in the order in which they need each other. -/
import Derived.Test.YtadgbifmiooikaaGreatPCb
import Derived.Test.YtadgbifmiooikaaGreatPCn
namespace Go.Proofs.YtadgbifmiooikaaGreatX
set_option linter.unusedVariables false
set_option linter.unusedSimpArgs false
open Go Go.RowKit Go.Proofs
set_option maxRecDepth 100000 in
set_option maxHeartbeats 1000000 in
theorem nbyte_spec {w0 w : World} {I : Imm} {L : Own} (hst : St w0 w I L) (c : Int) :
    Calls Tryz.prog 123 #[.int .u8 c] w fun e w' => ∃ b, e = .returned (.bool b) ∧ St w0 w' I L := by
  refine enter Tryz.func123 rfl (N := 29) rfl rfl ?_
  simp only [zA, zB, zC, zD, zE, Nat.reduceAdd]
  have hle := Imm.le.refl I; refine zR <| zS rfl rfl <| zM <| zk <| zX Bool (fun _ w => St w0 w I L) (fun b => [(0, .int .u8 c), (2, .bool b)]) ?_ ?_
  ·
    refine zg <| zm rfl rfl <| z1 rfl (runs_geq rfl rfl) <| zm rfl rfl <| zi (t := 5) rfl (fun hb5 => ?_) (fun hb5 => ?_)
    · have hb5p := hb5; (try simp only [dY, dF] at hb5p); refine zo rfl rfl rfl rfl hb5 <| zm rfl rfl <| zo rfl rfl rfl rfl hb5 <| z1 rfl (runs_leq rfl rfl) <| zt rfl rfl hb5 rfl <| zm rfl rfl <| zi (t := 9) rfl (fun hb9 => ?_) (fun hb9 => ?_)
      · refine zH rfl rfl rfl rfl rfl rfl rfl rfl hb9 <| zu rfl rfl rfl rfl ?_; refine zu rfl rfl rfl rfl ?_; refine zf rfl rfl rfl rfl hb9 <| zt rfl rfl hb9 rfl <| zm rfl rfl <| zH rfl rfl rfl rfl rfl rfl rfl rfl rfl <| zu rfl rfl rfl rfl ?_; refine zu rfl rfl rfl rfl ?_; refine zf rfl rfl rfl rfl rfl <| zt rfl rfl rfl rfl <| zm rfl rfl <| zG rfl rfl rfl rfl rfl rfl rfl <| zt rfl rfl rfl rfl <| zS rfl rfl <| zd ?_; exact zv (_ : Bool) hst ⟨rfl, rfl, trivial⟩
      · have hb9p := hb9; (try simp only [dY, dF] at hb9p); refine zo rfl rfl rfl rfl hb9 <| zm rfl rfl <| zo rfl rfl rfl rfl hb9 <| z1 rfl (runs_geq rfl rfl) <| zo rfl rfl rfl rfl hb9 <| zm rfl rfl <| zi (t := 12) rfl (fun hb12 => ?_) (fun hb12 => ?_)
        · have hb12p := hb12; (try simp only [dY, dF] at hb12p); refine zo rfl rfl rfl rfl hb12 <| zm rfl rfl <| zo rfl rfl rfl rfl hb12 <| z1 rfl (runs_leq rfl rfl) <| zo rfl rfl rfl rfl hb9 <| zt rfl rfl hb12 rfl <| zn rfl rfl hb9 rfl <| zm rfl rfl <| zi (t := 17) rfl (fun hb17 => ?_) (fun hb17 => ?_)
          · refine zH rfl rfl rfl rfl rfl rfl rfl rfl hb17 <| zu rfl rfl rfl rfl ?_; refine zu rfl rfl rfl rfl ?_; refine zf rfl rfl rfl rfl hb17 <| zt rfl rfl hb17 rfl <| zm rfl rfl <| zG rfl rfl rfl rfl rfl rfl rfl <| zt rfl rfl rfl rfl <| zS rfl rfl <| zd ?_; exact zv (_ : Bool) hst ⟨rfl, rfl, trivial⟩
          · have hb17p := hb17; (try simp only [dY, dF] at hb17p); refine zo rfl rfl rfl rfl hb17 <| zm rfl rfl <| zo rfl rfl rfl rfl hb17 <| z1 rfl (runs_geq rfl rfl) <| zo rfl rfl rfl rfl hb17 <| zm rfl rfl <| zi (t := 20) rfl (fun hb20 => ?_) (fun hb20 => ?_)
            · have hb20p := hb20; (try simp only [dY, dF] at hb20p); refine zo rfl rfl rfl rfl hb20 <| zm rfl rfl <| zo rfl rfl rfl rfl hb20 <| z1 rfl (runs_leq rfl rfl) <| zo rfl rfl rfl rfl hb17 <| zt rfl rfl hb20 rfl <| zn rfl rfl hb17 rfl <| zm rfl rfl <| zi (t := 25) rfl (fun hb25 => ?_) (fun hb25 => ?_)
              · refine zG rfl rfl rfl rfl rfl rfl hb25 <| zt rfl rfl hb25 rfl <| zS rfl rfl <| zd ?_; exact zv (_ : Bool) hst ⟨rfl, rfl, trivial⟩
              · refine zo rfl rfl rfl rfl hb25 <| zm rfl rfl <| zo rfl rfl rfl rfl hb25 <| z1 rfl (runs_eqI rfl rfl) <| zn rfl rfl hb25 rfl <| zS rfl rfl <| zd ?_; exact zv (_ : Bool) hst ⟨rfl, rfl, trivial⟩
            · refine zG rfl rfl rfl rfl rfl rfl hb20 <| zo rfl rfl rfl rfl hb17 <| zn rfl rfl hb20 rfl <| zn rfl rfl hb17 rfl <| zm rfl rfl <| zo rfl rfl rfl rfl rfl <| zm rfl rfl <| zo rfl rfl rfl rfl rfl <| z1 rfl (runs_eqI rfl rfl) <| zn rfl rfl rfl rfl ?_; refine zS rfl rfl <| zd ?_; exact zv (_ : Bool) hst ⟨rfl, rfl, trivial⟩
        · have hb12p := hb12; (try simp only [dY, dF] at hb12p); refine zG rfl rfl rfl rfl rfl rfl hb12 <| zo rfl rfl rfl rfl hb9 <| zn rfl rfl hb12 rfl <| zn rfl rfl hb9 rfl <| zm rfl rfl <| zo rfl rfl rfl rfl rfl <| zm rfl rfl <| zo rfl rfl rfl rfl rfl <| z1 rfl (runs_geq rfl rfl) <| zo rfl rfl rfl rfl rfl ?_; refine zm rfl rfl ?_; refine zi (t := 20) rfl (fun hb20 => ?_) (fun hb20 => ?_)
          · have hb20p := hb20; (try simp only [dY, dF] at hb20p); refine zo rfl rfl rfl rfl hb20 <| zm rfl rfl <| zo rfl rfl rfl rfl hb20 <| z1 rfl (runs_leq rfl rfl) <| zo rfl rfl rfl rfl rfl <| zt rfl rfl hb20 rfl <| zn rfl rfl rfl rfl <| zm rfl rfl <| zi (t := 25) rfl (fun hb25 => ?_) (fun hb25 => ?_)
            · refine zG rfl rfl rfl rfl rfl rfl hb25 <| zt rfl rfl hb25 rfl <| zS rfl rfl <| zd ?_; exact zv (_ : Bool) hst ⟨rfl, rfl, trivial⟩
            · refine zo rfl rfl rfl rfl hb25 <| zm rfl rfl <| zo rfl rfl rfl rfl hb25 <| z1 rfl (runs_eqI rfl rfl) <| zn rfl rfl hb25 rfl <| zS rfl rfl <| zd ?_; exact zv (_ : Bool) hst ⟨rfl, rfl, trivial⟩
          · refine zG rfl rfl rfl rfl rfl rfl hb20 <| zo rfl rfl rfl rfl rfl <| zn rfl rfl hb20 rfl <| zn rfl rfl rfl rfl <| zm rfl rfl <| zo rfl rfl rfl rfl rfl <| zm rfl rfl <| zo rfl rfl rfl rfl rfl <| z1 rfl (runs_eqI rfl rfl) <| zn rfl rfl rfl rfl ?_; refine zS rfl rfl <| zd ?_; exact zv (_ : Bool) hst ⟨rfl, rfl, trivial⟩
    · have hb5p := hb5; (try simp only [dY, dF] at hb5p); refine zG rfl rfl rfl rfl rfl rfl hb5 <| zn rfl rfl hb5 rfl <| zm rfl rfl <| zo rfl rfl rfl rfl rfl <| zm rfl rfl <| zo rfl rfl rfl rfl rfl <| z1 rfl (runs_geq rfl rfl) <| zo rfl rfl rfl rfl rfl <| zm rfl rfl <| zi (t := 12) rfl (fun hb12 => ?_) (fun hb12 => ?_)
      · have hb12p := hb12; (try simp only [dY, dF] at hb12p); refine zo rfl rfl rfl rfl hb12 <| zm rfl rfl <| zo rfl rfl rfl rfl hb12 <| z1 rfl (runs_leq rfl rfl) <| zo rfl rfl rfl rfl rfl <| zt rfl rfl hb12 rfl <| zn rfl rfl rfl rfl <| zm rfl rfl <| zi (t := 17) rfl (fun hb17 => ?_) (fun hb17 => ?_)
        · refine zH rfl rfl rfl rfl rfl rfl rfl rfl hb17 <| zu rfl rfl rfl rfl ?_; refine zu rfl rfl rfl rfl ?_; refine zf rfl rfl rfl rfl hb17 <| zt rfl rfl hb17 rfl <| zm rfl rfl <| zG rfl rfl rfl rfl rfl rfl rfl <| zt rfl rfl rfl rfl <| zS rfl rfl <| zd ?_; exact zv (_ : Bool) hst ⟨rfl, rfl, trivial⟩
        · have hb17p := hb17; (try simp only [dY, dF] at hb17p); refine zo rfl rfl rfl rfl hb17 <| zm rfl rfl <| zo rfl rfl rfl rfl hb17 <| z1 rfl (runs_geq rfl rfl) <| zo rfl rfl rfl rfl hb17 <| zm rfl rfl <| zi (t := 20) rfl (fun hb20 => ?_) (fun hb20 => ?_)
          · have hb20p := hb20; (try simp only [dY, dF] at hb20p); refine zo rfl rfl rfl rfl hb20 <| zm rfl rfl <| zo rfl rfl rfl rfl hb20 <| z1 rfl (runs_leq rfl rfl) <| zo rfl rfl rfl rfl hb17 <| zt rfl rfl hb20 rfl <| zn rfl rfl hb17 rfl <| zm rfl rfl <| zi (t := 25) rfl (fun hb25 => ?_) (fun hb25 => ?_)
            · refine zG rfl rfl rfl rfl rfl rfl hb25 <| zt rfl rfl hb25 rfl <| zS rfl rfl <| zd ?_; exact zv (_ : Bool) hst ⟨rfl, rfl, trivial⟩
            · refine zo rfl rfl rfl rfl hb25 <| zm rfl rfl <| zo rfl rfl rfl rfl hb25 <| z1 rfl (runs_eqI rfl rfl) <| zn rfl rfl hb25 rfl <| zS rfl rfl <| zd ?_; exact zv (_ : Bool) hst ⟨rfl, rfl, trivial⟩
          · refine zG rfl rfl rfl rfl rfl rfl hb20 <| zo rfl rfl rfl rfl hb17 <| zn rfl rfl hb20 rfl <| zn rfl rfl hb17 rfl <| zm rfl rfl <| zo rfl rfl rfl rfl rfl <| zm rfl rfl <| zo rfl rfl rfl rfl rfl <| z1 rfl (runs_eqI rfl rfl) <| zn rfl rfl rfl rfl ?_; refine zS rfl rfl <| zd ?_; exact zv (_ : Bool) hst ⟨rfl, rfl, trivial⟩
      · have hb12p := hb12; (try simp only [dY, dF] at hb12p); refine zG rfl rfl rfl rfl rfl rfl hb12 <| zo rfl rfl rfl rfl rfl <| zn rfl rfl hb12 rfl <| zn rfl rfl rfl rfl <| zm rfl rfl <| zo rfl rfl rfl rfl rfl <| zm rfl rfl <| zo rfl rfl rfl rfl rfl <| z1 rfl (runs_geq rfl rfl) <| zo rfl rfl rfl rfl rfl ?_; refine zm rfl rfl ?_; refine zi (t := 20) rfl (fun hb20 => ?_) (fun hb20 => ?_)
        · have hb20p := hb20; (try simp only [dY, dF] at hb20p); refine zo rfl rfl rfl rfl hb20 <| zm rfl rfl <| zo rfl rfl rfl rfl hb20 <| z1 rfl (runs_leq rfl rfl) <| zo rfl rfl rfl rfl rfl <| zt rfl rfl hb20 rfl <| zn rfl rfl rfl rfl <| zm rfl rfl <| zi (t := 25) rfl (fun hb25 => ?_) (fun hb25 => ?_)
          · refine zG rfl rfl rfl rfl rfl rfl hb25 <| zt rfl rfl hb25 rfl <| zS rfl rfl <| zd ?_; exact zv (_ : Bool) hst ⟨rfl, rfl, trivial⟩
          · refine zo rfl rfl rfl rfl hb25 <| zm rfl rfl <| zo rfl rfl rfl rfl hb25 <| z1 rfl (runs_eqI rfl rfl) <| zn rfl rfl hb25 rfl <| zS rfl rfl <| zd ?_; exact zv (_ : Bool) hst ⟨rfl, rfl, trivial⟩
        · refine zG rfl rfl rfl rfl rfl rfl hb20 <| zo rfl rfl rfl rfl rfl <| zn rfl rfl hb20 rfl <| zn rfl rfl rfl rfl <| zm rfl rfl <| zo rfl rfl rfl rfl rfl <| zm rfl rfl <| zo rfl rfl rfl rfl rfl <| z1 rfl (runs_eqI rfl rfl) <| zn rfl rfl rfl rfl ?_; refine zS rfl rfl <| zd ?_; exact zv (_ : Bool) hst ⟨rfl, rfl, trivial⟩
  · clear hst; rintro bx w hst; refine za <| CW.ret <| z9 rfl rfl ?_; exact ⟨_, rfl, hst⟩
set_option maxRecDepth 100000 in
set_option maxHeartbeats 1000000 in
theorem named_spec {w0 w : World} {I : Imm} {L : Own} (hst : St w0 w I L) (s : ByteArray) (hs : s.size ≤ 1000000000) (n : Int) :
    Calls Tryz.prog 98 #[.string s, .int .i64 n] w fun e w' => ∃ b, e = .returned (.bool b) ∧ St w0 w' I L := by
  have hsz := size_toList s; refine enter Tryz.func98 rfl (N := 26) rfl rfl ?_
  simp only [zA, zB, zC, zD, zE, Nat.reduceAdd]
  have hle := Imm.le.refl I; refine zR <| zS rfl rfl <| zM <| zk <| zR <| zS rfl rfl <| zM <| CW.block <| CW.loop Nat (fun k w => St w0 w I L ∧ k ≤ s.toList.length) (fun k => [(0, .string s), (1, .int .i64 n), (5, .int .i64 (k : Int))]) (fun k => s.toList.length - k) ⟨0, ⟨hst, Nat.zero_le _⟩, ⟨rfl, rfl, rfl, trivial⟩⟩ ?_; clear hst; rintro k w ⟨hst, hk⟩; refine zk <| zR <| zm rfl rfl <| zm rfl rfl <| z1 rfl (runs_lenS Tryz.underlying9 rfl) <| z1 rfl (runs_lss rfl rfl) <| zM <| zb rfl (fun hc9 => ?_) (fun hc9 => ?_)
  · have hcb9 := hc9; (try simp only [dY, dF] at hc9); refine zj <| za <| zk <| CW.block <| zR <| zm rfl rfl <| zm rfl rfl <| z1 rfl (runs_indexL Tryz.underlying9 rfl rfl (by omega) (by omega)) ?_; refine zK rfl call123 rfl rfl (nbyte_spec hst _) ?_; clear hst; rintro e w ⟨nb, rfl, hst⟩; refine ⟨_, rfl, ?_⟩; refine z1 rfl (runs_not rfl) <| zM <| zb rfl (fun hc16 => ?_) (fun hc16 => ?_)
    · refine zR <| zS rfl rfl <| zM <| CW.ret <| AQ.block_ret <| zr <| zr <| AQ.block_ret <| zr <| z9 rfl rfl ?_; exact ⟨_, rfl, hst⟩
    · have hcb16 := hc16; (try simp only [dY, dF] at hc16); refine zj <| zh <| za <| zg <| zm rfl rfl <| z1 rfl (runs_add rfl rfl (by omega)) ?_; refine zS rfl rfl <| zd ?_; exact AQ.again (x := k) (k + 1) ⟨hst, by omega⟩ ⟨rfl, rfl, rfl, trivial⟩ (by omega)
  · have hcb9 := hc9; (try simp only [dY, dF] at hc9); refine CW.exit ?_; refine AQ.past_exit <| AQ.past_exit <| AQ.block_hit <| za <| zR <| zm rfl rfl <| z1 rfl (runs_lenS Tryz.underlying9 rfl) <| z1 rfl (runs_geq rfl rfl) <| zm rfl rfl <| zi (t := 20) rfl (fun hb20 => ?_) (fun hb20 => ?_)
    · refine zo rfl rfl rfl rfl hb20 <| zm rfl rfl <| zo rfl rfl rfl rfl hb20 <| z1 rfl (runs_lenS Tryz.underlying9 rfl) <| zo rfl rfl rfl rfl hb20 <| zm rfl rfl <| zo rfl rfl rfl rfl hb20 <| z1 rfl (runs_leq rfl rfl) <| zt rfl rfl hb20 rfl <| zS rfl rfl ?_; refine zM <| CW.ret ?_; refine z9 rfl rfl ?_; exact ⟨_, rfl, hst⟩
    · refine zH rfl rfl rfl rfl rfl rfl rfl rfl hb20 <| zf rfl rfl rfl rfl hb20 <| zn rfl rfl hb20 rfl <| zS rfl rfl <| zM <| CW.ret <| z9 rfl rfl ?_; exact ⟨_, rfl, hst⟩
set_option maxRecDepth 100000 in
set_option maxHeartbeats 1000000 in
theorem valued_spec {w0 w : World} {I : Imm} {L : Own} (hst : St w0 w I L) (s : ByteArray) (hs : s.size ≤ 1000000000) (n : Int) :
    Calls Tryz.prog 99 #[.string s, .int .i64 n] w fun e w' => ∃ b, e = .returned (.bool b) ∧ St w0 w' I L := by
  have hsz := size_toList s; refine enter Tryz.func99 rfl (N := 43) rfl rfl ?_
  simp only [zA, zB, zC, zD, zE, Nat.reduceAdd]
  have hle := Imm.le.refl I; refine zR <| zS rfl rfl <| zM <| zk <| zR <| zS rfl rfl <| zM <| CW.block <| CW.loop Nat (fun k w => St w0 w I L ∧ k ≤ s.toList.length) (fun k => [(0, .string s), (1, .int .i64 n), (5, .int .i64 (k : Int))]) (fun k => s.toList.length - k) ⟨0, ⟨hst, Nat.zero_le _⟩, ⟨rfl, rfl, rfl, trivial⟩⟩ ?_; clear hst; rintro k w ⟨hst, hk⟩; refine zk <| zR <| zm rfl rfl <| zm rfl rfl <| z1 rfl (runs_lenS Tryz.underlying9 rfl) <| z1 rfl (runs_lss rfl rfl) <| zM <| zb rfl (fun hc9 => ?_) (fun hc9 => ?_)
  · have hcb9 := hc9; (try simp only [dY, dF] at hc9); refine zj <| za <| zk <| CW.block <| zk <| zX Bool (fun _ w => St w0 w I L) (fun b => [(0, .string s), (1, .int .i64 n), (5, .int .i64 (k : Int)), (21, .bool b)]) ?_ ?_
    ·
      refine zg <| zm rfl rfl <| zm rfl rfl <| z1 rfl (runs_indexL Tryz.underlying9 rfl rfl (by omega) (by omega)) ?_; refine z1 rfl (runs_lss rfl rfl) <| zm rfl rfl <| zi (t := 16) rfl (fun hb16 => ?_) (fun hb16 => ?_)
      · refine zH rfl rfl rfl rfl rfl rfl rfl rfl hb16 <| zf rfl rfl rfl rfl hb16 <| zt rfl rfl hb16 rfl <| zd ?_; exact zv (_ : Bool) hst ⟨rfl, rfl, rfl, rfl, trivial⟩
      · have hb16p := hb16; (try simp only [dY, dF] at hb16p); refine zo rfl rfl rfl rfl hb16 <| zm rfl rfl <| zo rfl rfl rfl rfl hb16 <| zm rfl rfl <| zo rfl rfl rfl rfl hb16 <| z1 rfl (runs_indexL Tryz.underlying9 rfl rfl (by omega) (by omega)) ?_; refine zo rfl rfl rfl rfl hb16 <| z1 rfl (runs_gtr rfl rfl) <| zn rfl rfl hb16 rfl <| zd ?_; exact zv (_ : Bool) hst ⟨rfl, rfl, rfl, rfl, trivial⟩
    · clear hst; rintro bx w hst; refine za <| zb rfl (fun hc21 => ?_) (fun hc21 => ?_)
      · refine zR <| zS rfl rfl <| zM <| CW.ret <| AQ.block_ret <| zr <| zr <| AQ.block_ret <| zr <| z9 rfl rfl ?_; exact ⟨_, rfl, hst⟩
      · have hcb21 := hc21; (try simp only [dY, dF] at hc21); refine zj <| zh <| za <| zg <| zm rfl rfl <| z1 rfl (runs_add rfl rfl (by omega)) ?_; refine zS rfl rfl <| zd ?_; exact AQ.again (x := k) (k + 1) ⟨hst, by omega⟩ ⟨rfl, rfl, rfl, trivial⟩ (by omega)
  · have hcb9 := hc9; (try simp only [dY, dF] at hc9); refine CW.exit ?_; refine AQ.past_exit <| AQ.past_exit <| AQ.block_hit <| za <| zk <| zX Bool (fun _ w => St w0 w I L) (fun b => [(0, .string s), (4, .bool b)]) ?_ ?_
    ·
      refine zg <| zm rfl rfl <| z1 rfl (runs_lenS Tryz.underlying9 rfl) <| zm rfl rfl <| z1 rfl (runs_leq rfl rfl) <| zm rfl rfl <| zi (t := 26) rfl (fun hb26 => ?_) (fun hb26 => ?_)
      · have hb26p := hb26; (try simp only [dY, dF] at hb26p); refine zo rfl rfl rfl rfl hb26 <| zm rfl rfl <| zo rfl rfl rfl rfl hb26 <| z1 rfl (runs_eqS rfl rfl) <| zo rfl rfl rfl rfl hb26 <| zm rfl rfl <| zi (t := 29) rfl (fun hb29 => ?_) (fun hb29 => ?_)
        · refine zH rfl rfl rfl rfl rfl rfl rfl rfl hb29 <| zf rfl rfl rfl rfl hb29 <| zu rfl rfl rfl rfl ?_; refine zu rfl rfl rfl rfl ?_; refine zu rfl rfl rfl rfl ?_; refine zu rfl rfl rfl rfl ?_; refine zu rfl rfl rfl rfl ?_; refine zu rfl rfl rfl rfl ?_; refine zf rfl rfl rfl rfl hb29 <| zo rfl rfl rfl rfl hb26 <| zt rfl rfl hb29 rfl <| zt rfl rfl hb26 rfl <| zS rfl rfl <| zd ?_; exact zv (_ : Bool) hst ⟨rfl, rfl, trivial⟩
        · have hb29p := hb29; (try simp only [dY, dF] at hb29p)
          have hpos : 0 < s.size := by
            rcases Nat.eq_zero_or_pos s.size with h0 | h0
            · exfalso
              have h1 : s.toList = [] := List.eq_nil_of_length_eq_zero (by omega); rw [h1, emptyL] at hb29
              simp at hb29
            · exact h0
          refine zo rfl rfl rfl rfl hb29 <| zm rfl rfl <| zo rfl rfl rfl rfl hb29 <| z1 rfl (runs_indexS Tryz.underlying9 rfl rfl (by omega) (by omega)) ?_; refine zo rfl rfl rfl rfl hb29 <| z1 rfl (runs_neI rfl rfl) <| zo rfl rfl rfl rfl hb29 <| zm rfl rfl <| zi (t := 33) rfl (fun hb33 => ?_) (fun hb33 => ?_)
          · have hb33p := hb33; (try simp only [dY, dF] at hb33p); refine zo rfl rfl rfl rfl hb33 <| zm rfl rfl <| zo rfl rfl rfl rfl hb33 <| zm rfl rfl <| zo rfl rfl rfl rfl hb33 <| z1 rfl (runs_lenS Tryz.underlying9 rfl) <| zo rfl rfl rfl rfl hb33 <| z1 rfl (runs_sub rfl rfl (by omega)) ?_; refine zo rfl rfl rfl rfl hb33 <| z1 rfl (runs_indexS Tryz.underlying9 rfl rfl (by omega) (by omega)) ?_; refine zo rfl rfl rfl rfl hb33 <| z1 rfl (runs_neI rfl rfl) <| zo rfl rfl rfl rfl hb29 <| zt rfl rfl hb33 rfl <| zo rfl rfl rfl rfl hb26 <| zn rfl rfl hb29 rfl <| zt rfl rfl hb26 rfl <| zS rfl rfl <| zd ?_; exact zv (_ : Bool) hst ⟨rfl, rfl, trivial⟩
          · refine zH rfl rfl rfl rfl rfl rfl rfl rfl hb33 <| zH rfl rfl rfl rfl rfl rfl rfl rfl hb33 <| zo rfl rfl rfl rfl hb29 <| zn rfl rfl hb33 rfl <| zo rfl rfl rfl rfl hb26 <| zn rfl rfl hb29 rfl <| zt rfl rfl hb26 rfl <| zS rfl rfl <| zd ?_; exact zv (_ : Bool) hst ⟨rfl, rfl, trivial⟩
      · refine zH rfl rfl rfl rfl rfl rfl rfl rfl hb26 <| zu rfl rfl rfl rfl ?_; refine zu rfl rfl rfl rfl ?_; refine zu rfl rfl rfl rfl ?_; refine zu rfl rfl rfl rfl ?_; refine zu rfl rfl rfl rfl ?_; refine zu rfl rfl rfl rfl ?_; refine zu rfl rfl rfl rfl ?_; refine zu rfl rfl rfl rfl ?_; refine zu rfl rfl rfl rfl ?_; refine zu rfl rfl rfl rfl ?_; refine zu rfl rfl rfl rfl ?_; refine zf rfl rfl rfl rfl hb26 <| zn rfl rfl hb26 rfl <| zS rfl rfl <| zd ?_; exact zv (_ : Bool) hst ⟨rfl, rfl, trivial⟩
    · clear hst; rintro bx w hst; refine za <| CW.ret <| z9 rfl rfl ?_; exact ⟨_, rfl, hst⟩
set_option maxRecDepth 100000 in
set_option maxHeartbeats 1000000 in
theorem forb_spec {w0 w : World} {I : Imm} {L : Own} (hst : St w0 w I L) (s : ByteArray) (hs : s.size ≤ 1000000000) :
    Calls Tryz.prog 100 #[.string s] w fun e w' => ∃ I' b, I.le I' ∧ e = .returned (.bool b) ∧ St w0 w' I' L := by
  refine enter Tryz.func100 rfl (N := 23) rfl rfl ?_
  simp only [zA, zB, zC, zD, zE, Nat.reduceAdd]
  have hle := Imm.le.refl I; refine zR <| zS rfl rfl <| zN <| zm rfl rfl <| zK rfl call91 rfl rfl (refLower_spec hst s (by omega)) ?_; clear hst; rintro e w ⟨I1, hI1, rfl, hst⟩; obtain ⟨q, hq⟩ : ∃ q, strOf (lower s.toList) = q := ⟨_, rfl⟩; rw [hq]; replace hle := hle.trans hI1; refine ⟨_, rfl, ?_⟩; refine zS rfl rfl <| zM <| zk <| zR <| ze rfl (runs_lit1R Tryz.underlying118 ti9 (by decide) rfl rfl rfl (by simp [Value.oneCell']) hst) ?_; clear hst; rintro u2 w ⟨I2, hI2, hst, h2⟩; replace hle := hle.trans hI2; have hL : RdS _ u2 [⟨#[104, 111, 115, 116]⟩, ⟨#[111, 114, 105, 103, 105, 110]⟩, ⟨#[114, 101, 102, 101, 114, 101, 114]⟩, ⟨#[99, 111, 111, 107, 105, 101]⟩, ⟨#[99, 111, 110, 110, 101, 99, 116, 105, 111, 110]⟩, ⟨#[114, 97, 110, 103, 101]⟩, ⟨#[105, 102, 45, 114, 97, 110, 103, 101]⟩] := h2; obtain ⟨vL, rfl⟩ : ∃ v, v = u2 := ⟨_, rfl⟩; obtain ⟨JL, hJL⟩ : ∃ J, J = I2 := ⟨_, rfl⟩; subst hJL; refine z1 rfl (RdL.len Tryz.underlying118 rfl hL) <| zm rfl rfl <| zM <| CW.block <| CW.loop Nat (fun k w => St w0 w JL L ∧ k ≤ 7) (fun k => [(0, .string q), (7, vL), (8, .int .i64 (7 : Nat)), (9, .int .i64 (k : Int))]) (fun k => 7 - k) ⟨0, ⟨hst, Nat.zero_le _⟩, ⟨rfl, rfl, rfl, rfl, trivial⟩⟩ ?_; clear hst; rintro k w ⟨hst, hk⟩; refine zR <| z1 rfl (runs_lss rfl rfl) <| zM <| zk <| zb rfl (fun hc10 => ?_) (fun hc10 => ?_)
  · have hcb10 := hc10; (try simp only [dY, dF] at hc10)
    have hk1 : k < 7 := by omega
    refine zj <| za <| zk <| CW.block <| zR <| z1 rfl (RdL.indexAddr Tryz.underlying118 ti9 (by decide) rfl rfl hL (by show 0 ≤ (k : Int) ∧ (k : Int) < 7; omega)) ?_; refine z1 rfl (runs_load1 sc9 rfl (hst.cell_imm (RdS.at hL (by omega) (by show (k : Int) < 7; omega)))) ?_; refine zS rfl rfl <| zN <| zm rfl rfl <| zm rfl rfl <| z1 rfl (runs_eqS rfl rfl) <| zM <| zb rfl (fun hc15 => ?_) (fun hc15 => ?_)
    · refine zR <| zS rfl rfl <| zM <| CW.ret <| AQ.block_ret <| zr <| zr <| AQ.block_ret <| zr <| z9 rfl rfl ?_; exact ⟨_, _, hle, rfl, hst⟩
    · have hcb15 := hc15; (try simp only [dY, dF] at hc15); refine zj <| zh <| za <| zg <| z1 rfl (runs_add rfl rfl (by omega)) ?_; refine zm rfl rfl <| zd ?_; exact AQ.again (x := k) (k + 1) ⟨hst, by omega⟩ ⟨rfl, rfl, rfl, rfl, trivial⟩ (by omega)
  · have hcb10 := hc10; (try simp only [dY, dF] at hc10); refine CW.exit ?_; refine AQ.past_exit <| AQ.past_exit <| AQ.block_hit <| za <| zR <| zm rfl rfl <| zK rfl call90 rfl rfl (begins_spec hst q _) ?_; clear hst; rintro e w ⟨rfl, hst⟩; refine ⟨_, rfl, ?_⟩; refine zm rfl rfl <| zi (t := 19) rfl (fun hb19 => ?_) (fun hb19 => ?_)
    · refine zG rfl rfl rfl rfl rfl rfl hb19 <| zt rfl rfl hb19 rfl <| zS rfl rfl <| zM <| CW.ret <| z9 rfl rfl ?_; exact ⟨_, _, hle, rfl, hst⟩
    · refine zo rfl rfl rfl rfl hb19 <| zm rfl rfl <| zo rfl rfl rfl rfl hb19 <| zK rfl call90 rfl rfl (begins_spec hst q _) ?_; clear hst; rintro e w ⟨rfl, hst⟩; refine ⟨_, rfl, ?_⟩; refine zn rfl rfl hb19 rfl <| zS rfl rfl <| zM <| CW.ret <| z9 rfl rfl ?_; exact ⟨_, _, hle, rfl, hst⟩
theorem trimB_len (l : List UInt8) : (trimB l).length ≤ l.length := by
  have hR : ∀ (n : Nat) (l : List UInt8), (trimR n l).length ≤ l.length := by
    intro n
    induction n with
    | zero => intro l; exact Nat.le_refl _
    | succ n ih =>
      intro l; unfold trimR
      split
      · have := ih (l.take (l.length - 1)); rw [List.length_take] at this; omega
      · exact Nat.le_refl _
  unfold trimB; have h1 := hR l.length (trimL l); have h2 := (List.dropWhile_sublist (fun c : UInt8 => decide (c.toNat ≤ 32)) (l := l)).length_le; unfold trimL at h1 ⊢; omega
theorem lower_len (l : List UInt8) : (lower l).length = l.length := by
  unfold lower
  simp
def figB (k : Nat) : Int := [0, 255, 2805, 28305, 283305, 2833305].getD k 0
theorem figB_step : ∀ k, k < 5 → 10 * figB k + 255 ≤ figB (k + 1) := by decide
theorem figB_top : ∀ k, k < 6 → figB k ≤ 2833305 := by decide
theorem preS_le {s p : ByteArray} (h : preS s p = true) : p.size ≤ s.size := by
  unfold preS at h; rw [Bool.and_eq_true, decide_eq_true_eq] at h; omega
theorem ne_empty {s : ByteArray} (h : (s.toList == (ByteArray.mk #[]).toList) = false) : 0 < s.size := by
  rcases Nat.eq_zero_or_pos s.size with h0 | h0
  · exfalso
    have h1 : s.toList = [] := List.eq_nil_of_length_eq_zero (by rw [size_toList]; exact h0); rw [h1, emptyL] at h
    simp at h
  · exact h0
theorem ext_sz (s : ByteArray) (i : Nat) : (s.extract i s.size).size ≤ s.size := by
  rw [ByteArray.size_extract]; omega
set_option maxRecDepth 100000 in
set_option maxHeartbeats 1000000 in
theorem figures5_spec {w0 w : World} {I : Imm} {L : Own} (hst : St w0 w I L) (s : ByteArray) (hs : s.size ≤ 1000000000) :
    Calls Tryz.prog 94 #[.string s, .int .i64 1, .int .i64 5] w fun e w' => ∃ n ok, e = .returned (.tuple #[.int .i64 n, .bool ok]) ∧ 0 ≤ n ∧ n ≤ 2833305 ∧ St w0 w' I L := by
  have hsz := size_toList s; refine enter Tryz.func94 rfl (N := 45) rfl rfl ?_
  simp only [zA, zB, zC, zD, zE, Nat.reduceAdd]
  have hle := Imm.le.refl I; refine zR <| zS rfl rfl <| zS rfl rfl <| zM <| zk <| zk <| zX Bool (fun b w => St w0 w I L ∧ (b = false → s.toList.length ≤ 5)) (fun b => [(0, .string s), (1, .int .i64 1), (2, .int .i64 5), (19, .bool b)]) ?_ ?_
  ·
    refine zg <| zm rfl rfl <| z1 rfl (runs_lenS Tryz.underlying9 rfl) <| zm rfl rfl <| z1 rfl (runs_lss rfl rfl) <| zm rfl rfl <| zi (t := 14) rfl (fun hb14 => ?_) (fun hb14 => ?_)
    · refine zH rfl rfl rfl rfl rfl rfl rfl rfl hb14 <| zf rfl rfl rfl rfl hb14 <| zt rfl rfl hb14 rfl <| zd ?_; exact zv (_ : Bool) ⟨hst, fun h => by cases h⟩ ⟨rfl, rfl, rfl, rfl, trivial⟩
    · have hb14p := hb14; (try simp only [dY, dF] at hb14p); refine zo rfl rfl rfl rfl hb14 <| zm rfl rfl <| zo rfl rfl rfl rfl hb14 <| z1 rfl (runs_lenS Tryz.underlying9 rfl) <| zo rfl rfl rfl rfl hb14 <| zm rfl rfl <| zo rfl rfl rfl rfl hb14 <| z1 rfl (runs_gtr rfl rfl) <| zn rfl rfl hb14 rfl <| zd ?_; exact zv (_ : Bool) ⟨hst, fun h => by simp at h; omega⟩ ⟨rfl, rfl, rfl, rfl, trivial⟩
  · clear hst; rintro bx w ⟨hst, hbx⟩; refine za <| zb rfl (fun hc19 => ?_) (fun hc19 => ?_)
    · refine zR <| zS rfl rfl <| zS rfl rfl <| zM <| CW.ret <| zr <| AQ.ret2 rfl rfl rfl ?_; exact ⟨_, _, rfl, by decide, by decide, hst⟩
    · have hcb19 := hc19; (try simp only [dY, dF] at hc19); have h19 := hbx hcb19; refine zj <| za <| zR <| zS rfl rfl <| zM <| zk <| zR <| zS rfl rfl <| zM <| CW.block ?_; refine CW.loop (Nat × Int) (fun x w => St w0 w I L ∧ x.1 ≤ s.toList.length ∧ 0 ≤ x.2 ∧ x.2 ≤ figB x.1) (fun x => [(0, .string s), (8, .int .i64 x.2), (9, .int .i64 (x.1 : Int))]) (fun x => s.toList.length - x.1) ⟨(0, 0), ⟨hst, Nat.zero_le _, Int.le_refl _, by decide⟩, ⟨rfl, rfl, rfl, trivial⟩⟩ ?_; rintro ⟨k, n⟩ w ⟨hstn, hk, hn0, hn1⟩; dsimp only at hstn hk hn0 hn1 ⊢; clear hst; have hst := hstn; clear hstn; have hft := figB_top k (by omega); refine zk <| zR <| zm rfl rfl <| zm rfl rfl <| z1 rfl (runs_lenS Tryz.underlying9 rfl) <| z1 rfl (runs_lss rfl rfl) <| zM <| zb rfl (fun hc23 => ?_) (fun hc23 => ?_)
      · have hcb23 := hc23; (try simp only [dY, dF] at hc23)
        have hk1 : k < s.toList.length := by omega
        have hfs := figB_step k (by omega); refine zj <| za <| zk <| CW.block <| zk <| zk <| zX Bool (fun _ w => St w0 w I L) (fun b => [(0, .string s), (8, .int .i64 n), (9, .int .i64 (k : Int)), (35, .bool b)]) ?_ ?_
        ·
          refine zg <| zm rfl rfl <| zm rfl rfl <| z1 rfl (runs_indexL Tryz.underlying9 rfl rfl (by omega) (by omega)) ?_; refine z1 rfl (runs_lss rfl rfl) <| zm rfl rfl <| zi (t := 30) rfl (fun hb30 => ?_) (fun hb30 => ?_)
          · refine zH rfl rfl rfl rfl rfl rfl rfl rfl hb30 <| zf rfl rfl rfl rfl hb30 <| zt rfl rfl hb30 rfl <| zd ?_; exact zv (_ : Bool) hst ⟨rfl, rfl, rfl, rfl, trivial⟩
          · have hb30p := hb30; (try simp only [dY, dF] at hb30p); refine zo rfl rfl rfl rfl hb30 <| zm rfl rfl <| zo rfl rfl rfl rfl hb30 <| zm rfl rfl <| zo rfl rfl rfl rfl hb30 <| z1 rfl (runs_indexL Tryz.underlying9 rfl rfl (by omega) (by omega)) ?_; refine zo rfl rfl rfl rfl hb30 <| z1 rfl (runs_gtr rfl rfl) <| zn rfl rfl hb30 rfl <| zd ?_; exact zv (_ : Bool) hst ⟨rfl, rfl, rfl, rfl, trivial⟩
        · clear hst; rintro bx w hst; refine za <| zb rfl (fun hc35 => ?_) (fun hc35 => ?_)
          · refine zR <| zS rfl rfl <| zS rfl rfl <| zM <| CW.ret <| zr <| AQ.block_ret <| zr <| zr <| AQ.block_ret ?_; refine zr ?_; refine AQ.ret2 rfl rfl rfl ?_; exact ⟨_, _, rfl, by decide, by decide, hst⟩
          · have hcb35 := hc35; (try simp only [dY, dF] at hc35); refine zj <| za <| zg <| zm rfl rfl <| z1 rfl (runs_mul rfl rfl (by omega)) ?_; refine zm rfl rfl <| zm rfl rfl <| z1 rfl (runs_indexL Tryz.underlying9 rfl rfl (by omega) (by omega)) ?_; refine z1 rfl (runs_subW rfl rfl) ?_; obtain ⟨z, hz⟩ : ∃ z, IntKind.u8.wrap (((s.toList.getD (((k : Nat) : Int)).toNat 0).toNat : Int) - 48) = z := ⟨_, rfl⟩
            have hz2 : 0 ≤ z ∧ z ≤ 255 := by rw [← hz, IntKind.wrap_u8]; omega
            rw [hz]; refine z1 rfl (runs_conv64 (by rw [Tryz.underlying5]; rfl) Tryz.underlying3 rfl (by omega)) ?_; refine z1 rfl (runs_add rfl rfl (by omega)) ?_; refine zS rfl rfl <| zd <| zh <| za <| zg <| zm rfl rfl <| z1 rfl (runs_add rfl rfl (by omega)) ?_; refine zS rfl rfl <| zd ?_; exact AQ.again (x := (k, n)) (k + 1, 10 * n + z) ⟨hst, by dsimp only; omega, by dsimp only; omega, by dsimp only; omega⟩ ⟨rfl, rfl, rfl, trivial⟩ (by dsimp only; omega)
      · have hcb23 := hc23; (try simp only [dY, dF] at hc23); refine CW.exit ?_; refine AQ.past_exit <| AQ.past_exit <| AQ.block_hit <| za <| zR <| zm rfl rfl <| zS rfl rfl <| zS rfl rfl <| zM <| CW.ret ?_; refine AQ.ret2 rfl rfl rfl ?_; exact ⟨_, _, rfl, hn0, by omega, hst⟩
set_option maxRecDepth 100000 in
set_option maxHeartbeats 1000000 in
theorem dots_spec {w0 w : World} {I : Imm} {L : Own} (hst : St w0 w I L) (s : ByteArray) (hs : s.size ≤ 10000) :
    Calls Tryz.prog 96 #[.string s] w fun e w' => ∃ I' t, I.le I' ∧ e = .returned (.string t) ∧ t.size ≤ 10000000000 ∧ St w0 w' I' L := by
  refine enter Tryz.func96 rfl (N := 65) rfl rfl ?_
  simp only [zA, zB, zC, zD, zE, Nat.reduceAdd]
  have hle := Imm.le.refl I; refine zR <| zS rfl rfl <| zM <| zk <| zR <| zm rfl rfl <| z1 rfl (runs_eqS rfl rfl) <| zM <| zX ByteArray (fun q w => St w0 w I L ∧ 0 < q.size ∧ q.size ≤ 10000) (fun q => [(0, .string q)]) ?_ ?_
  · refine zb rfl (fun hc12 => ?_) (fun hc12 => ?_)
    · refine zg <| zS rfl rfl <| zd ?_; exact zv (ByteArray.mk #[47]) ⟨hst, by decide, by decide⟩ ⟨rfl, trivial⟩
    · have hcb12 := hc12; (try simp only [dY, dF] at hc12); refine zj ?_; exact zv s ⟨hst, ne_empty hcb12, hs⟩ ⟨rfl, trivial⟩
  · clear hst; rintro q w ⟨hst, hq1, hq2⟩; refine za <| zR <| zS rfl rfl <| zN <| zm rfl rfl <| z1 rfl (runs_sliceS_l Tryz.underlying9 rfl rfl (by omega)) ?_; obtain ⟨c0, hc0⟩ : ∃ c, q.extract ((1 : Int)).toNat q.size = c := ⟨_, rfl⟩
    have hcz : c0.size + 1 ≤ 10000 := by rw [← hc0, ByteArray.size_extract]; show min q.size q.size - 1 + 1 ≤ _; omega
    rw [hc0]; refine zS rfl rfl <| zM <| zk <| CW.block <| CW.loop (Imm × ByteArray × Value × Own × List ByteArray) (fun x w => I.le x.1 ∧ St w0 w x.1 (x.2.2.2.1 ++ L) ∧ Grow 9 1 x.2.2.1 (x.2.2.2.2).length ((x.2.2.2.2).map Value.string) x.2.2.2.1 ∧ (∀ z ∈ x.2.2.2.2, z.size ≤ 120000) ∧ x.2.2.2.2.length + (x.2.1).size ≤ 10000) (fun x => [(3, x.2.2.1), (4, .string x.2.1)]) (fun x : Imm × ByteArray × Value × Own × List ByteArray => x.2.1.size) ⟨(_, c0, _, [], []), ⟨hle, hst, Grow.nil _ _, by simp, by dsimp only [List.length_nil]; omega⟩, ⟨rfl, rfl, trivial⟩⟩ ?_; clear hle hst; rintro ⟨J, cur, vl, Lo, ps⟩ w ⟨hle, hst, hg, hps, hpl⟩; dsimp only at hle hst hg hps hpl ⊢; refine CW.block <| zR <| zm rfl rfl <| zK rfl call92 rfl rfl (until_spec hst cur ⟨#[47]⟩ (by omega) (by decide)) ?_; clear hst; rintro e w ⟨rfl, hst⟩; have hul := untilL_len (ByteArray.mk #[47]).toList cur.toList; rw [size_toList] at hul; obtain ⟨p, hp⟩ : ∃ x, strOf (untilL (ByteArray.mk #[47]).toList cur.toList).1 = x := ⟨_, rfl⟩; obtain ⟨rs, hrs⟩ : ∃ x, strOf (untilL (ByteArray.mk #[47]).toList cur.toList).2 = x := ⟨_, rfl⟩
    have hpz : p.size ≤ cur.size := by rw [← hp, strOfZ]; exact hul.1
    have hrz : rs.size ≤ cur.size := by rw [← hrs, strOfZ]; exact hul.2
    rw [hp, hrs]; refine ⟨_, rfl, ?_⟩; refine zm rfl rfl <| zx rfl rfl rfl <| zx rfl rfl rfl <| zS rfl rfl <| zS rfl rfl <| zN <| zm rfl rfl <| z1 rfl (runs_eqS rfl rfl) <| zS rfl rfl <| zM ?_; refine zk ?_; refine zX (Imm × Value × Own × List ByteArray) (fun y w => I.le y.1 ∧ St w0 w y.1 (y.2.2.1 ++ L) ∧ Grow 9 1 y.2.1 (y.2.2.2).length ((y.2.2.2).map Value.string) y.2.2.1 ∧ (∀ z ∈ y.2.2.2, z.size ≤ 120000) ∧ y.2.2.2.length + (rs).size ≤ 10001) (fun y => [(3, y.2.1), (6, .string rs), (7, .bool (rs.toList == (ByteArray.mk #[]).toList))]) ?_ ?_
    · refine CW.block <| zR <| zm rfl rfl <| z1 rfl (runs_eqS rfl rfl) <| zm rfl rfl <| zi (t := 30) rfl (fun hb30 => ?_) (fun hb30 => ?_)
      · have hb30p := hb30; (try simp only [dY, dF] at hb30p); refine zG rfl rfl rfl rfl rfl rfl hb30 <| zt rfl rfl hb30 rfl <| zS rfl rfl <| zM <| CW.cond_true rfl ?_; refine zk <| zR <| zm rfl rfl <| z1 rfl (runs_eqS rfl rfl) <| zm rfl rfl <| zi (t := 36) rfl (fun hb36 => ?_) (fun hb36 => ?_)
        · have hb36p := hb36; (try simp only [dY, dF] at hb36p); refine zo rfl rfl rfl rfl hb36 <| zm rfl rfl <| zo rfl rfl rfl rfl hb36 <| z1 rfl (Grow.len Tryz.underlying118 rfl hg) <| zo rfl rfl rfl rfl hb36 <| z1 rfl (runs_gtr rfl rfl) <| zt rfl rfl hb36 rfl <| zM <| zX (Value × Own × List ByteArray) (fun y w => St w0 w J (y.2.1 ++ L) ∧ Grow 9 1 y.1 (y.2.2).length ((y.2.2).map Value.string) y.2.1 ∧ (∀ z ∈ y.2.2, z.size ≤ 120000) ∧ y.2.2.length ≤ ps.length) (fun y => [(3, y.1), (6, .string rs), (7, .bool (rs.toList == (ByteArray.mk #[]).toList))]) ?_ ?_
          · refine zb rfl (fun hc40 => ?_) (fun hc40 => ?_)
            · have hcb40 := hc40; (try simp only [dY, dF] at hc40); refine zg <| zm rfl rfl <| zm rfl rfl <| z1 rfl (Grow.len Tryz.underlying118 rfl hg) <| z1 rfl (runs_sub rfl rfl (by omega)) ?_
              have h40p : 0 < ps.length := by first | exact absurd hcb40 (by decide) | omega
              have hgt := Grow.take hg (hi := ps.length - 1) (by omega); refine z1 rfl (Grow.slice_h Tryz.underlying118 ti9 rfl rfl hg (by omega)) ?_; rw [show (((ps.length : Nat) : Int) - 1).toNat = ps.length - 1 by omega]
              have hgt2 : Grow 9 1 (partV vl 0 (ps.length - 1) 1) (ps.take (ps.length - 1)).length ((ps.take (ps.length - 1)).map Value.string) Lo := by
                rw [List.length_take, Nat.min_eq_left (by omega), List.map_take]
                simpa using hgt
              refine zS rfl rfl <| zd ?_; exact zv (_, Lo, ps.take (ps.length - 1)) ⟨hst, hgt2, (fun x hx => hps x (List.mem_of_mem_take hx)), by rw [List.length_take]; omega⟩ ⟨rfl, rfl, rfl, trivial⟩
            · refine zj ?_; exact zv (vl, Lo, ps) ⟨hst, hg, hps, Nat.le_refl _⟩ ⟨rfl, rfl, rfl, trivial⟩
          · clear hst; rintro ⟨v3, L3, p3⟩ w ⟨hst, hg3, hps3, hpl3⟩; dsimp only at hst hg3 hps3 hpl3 ⊢; refine za <| zR <| zm rfl rfl <| zM <| zb rfl (fun hc46 => ?_) (fun hc46 => ?_)
            · have hcb46 := hc46; (try simp only [dY, dF] at hc46); refine zg <| zm rfl rfl <| ze rfl (runs_lit1R (xs := [Value.string (ByteArray.mk #[])]) Tryz.underlying118 ti9 (by decide) rfl rfl rfl (by simp [Value.oneCell']) hst) ?_; clear hst; rintro u2 w ⟨I2, hI2, hst, h2⟩; replace hle := hle.trans hI2; have hD : RdL _ 1 u2 1 [Value.string (ByteArray.mk #[])] := h2; refine ze rfl (runs_appendR Tryz.underlying118 ti9 rfl (by decide) rfl rfl hst hg3 hD (by omega) (by unfold maxLen; omega)) ?_; clear hst; rintro uN w ⟨LvN, hst, hgN0⟩; obtain ⟨psN, hpe⟩ : ∃ x, x = p3 ++ [ByteArray.mk #[]] := ⟨_, rfl⟩
              have hgN : Grow 9 1 uN (psN).length ((psN).map Value.string) LvN := by rw [hpe, List.length_append, List.map_append]; exact hgN0
              have hpsN : ∀ x ∈ psN, x.size ≤ 120000 := by
                rw [hpe]; intro x hx
                rcases List.mem_append.1 hx with hx | hx
                · exact hps3 x hx
                · rw [List.mem_singleton.1 hx]; decide
              have hplN : psN.length = p3.length + 1 := by rw [hpe, List.length_append]; rfl
              refine zS rfl rfl <| zd <| zh ?_; exact zv (_, uN, LvN, psN) ⟨hle, hst, hgN, hpsN, by dsimp only; omega⟩ ⟨rfl, rfl, rfl, trivial⟩
            · have hcb46 := hc46; (try simp only [dY, dF] at hc46); refine zj <| zh ?_; exact zv (J, v3, L3, p3) ⟨hle, hst, hg3, hps3, by dsimp only; omega⟩ ⟨rfl, rfl, rfl, trivial⟩
        · have hb36p := hb36; (try simp only [dY, dF] at hb36p); refine zH rfl rfl rfl rfl rfl rfl rfl rfl hb36 <| zn rfl rfl hb36 rfl <| zM <| zX (Value × Own × List ByteArray) (fun y w => St w0 w J (y.2.1 ++ L) ∧ Grow 9 1 y.1 (y.2.2).length ((y.2.2).map Value.string) y.2.1 ∧ (∀ z ∈ y.2.2, z.size ≤ 120000) ∧ y.2.2.length ≤ ps.length) (fun y => [(3, y.1), (6, .string rs), (7, .bool (rs.toList == (ByteArray.mk #[]).toList))]) ?_ ?_
          · refine zb rfl (fun hc40 => ?_) (fun hc40 => ?_)
            · have hcb40 := hc40; (try simp only [dY, dF] at hc40); refine zg <| zm rfl rfl <| zm rfl rfl <| z1 rfl (Grow.len Tryz.underlying118 rfl hg) <| z1 rfl (runs_sub rfl rfl (by omega)) ?_
              have h40p : 0 < ps.length := by first | exact absurd hcb40 (by decide) | omega
              have hgt := Grow.take hg (hi := ps.length - 1) (by omega); refine z1 rfl (Grow.slice_h Tryz.underlying118 ti9 rfl rfl hg (by omega)) ?_; rw [show (((ps.length : Nat) : Int) - 1).toNat = ps.length - 1 by omega]
              have hgt2 : Grow 9 1 (partV vl 0 (ps.length - 1) 1) (ps.take (ps.length - 1)).length ((ps.take (ps.length - 1)).map Value.string) Lo := by
                rw [List.length_take, Nat.min_eq_left (by omega), List.map_take]
                simpa using hgt
              refine zS rfl rfl <| zd ?_; exact zv (_, Lo, ps.take (ps.length - 1)) ⟨hst, hgt2, (fun x hx => hps x (List.mem_of_mem_take hx)), by rw [List.length_take]; omega⟩ ⟨rfl, rfl, rfl, trivial⟩
            · refine zj ?_; exact zv (vl, Lo, ps) ⟨hst, hg, hps, Nat.le_refl _⟩ ⟨rfl, rfl, rfl, trivial⟩
          · clear hst; rintro ⟨v3, L3, p3⟩ w ⟨hst, hg3, hps3, hpl3⟩; dsimp only at hst hg3 hps3 hpl3 ⊢; refine za <| zR <| zm rfl rfl <| zM <| zb rfl (fun hc46 => ?_) (fun hc46 => ?_)
            · have hcb46 := hc46; (try simp only [dY, dF] at hc46); refine zg <| zm rfl rfl <| ze rfl (runs_lit1R (xs := [Value.string (ByteArray.mk #[])]) Tryz.underlying118 ti9 (by decide) rfl rfl rfl (by simp [Value.oneCell']) hst) ?_; clear hst; rintro u4 w ⟨I4, hI4, hst, h4⟩; replace hle := hle.trans hI4; have hD : RdL _ 1 u4 1 [Value.string (ByteArray.mk #[])] := h4; refine ze rfl (runs_appendR Tryz.underlying118 ti9 rfl (by decide) rfl rfl hst hg3 hD (by omega) (by unfold maxLen; omega)) ?_; clear hst; rintro uN w ⟨LvN, hst, hgN0⟩; obtain ⟨psN, hpe⟩ : ∃ x, x = p3 ++ [ByteArray.mk #[]] := ⟨_, rfl⟩
              have hgN : Grow 9 1 uN (psN).length ((psN).map Value.string) LvN := by rw [hpe, List.length_append, List.map_append]; exact hgN0
              have hpsN : ∀ x ∈ psN, x.size ≤ 120000 := by
                rw [hpe]; intro x hx
                rcases List.mem_append.1 hx with hx | hx
                · exact hps3 x hx
                · rw [List.mem_singleton.1 hx]; decide
              have hplN : psN.length = p3.length + 1 := by rw [hpe, List.length_append]; rfl
              refine zS rfl rfl <| zd <| zh ?_; exact zv (_, uN, LvN, psN) ⟨hle, hst, hgN, hpsN, by dsimp only; omega⟩ ⟨rfl, rfl, rfl, trivial⟩
            · have hcb46 := hc46; (try simp only [dY, dF] at hc46); refine zj <| zh ?_; exact zv (J, v3, L3, p3) ⟨hle, hst, hg3, hps3, by dsimp only; omega⟩ ⟨rfl, rfl, rfl, trivial⟩
      · have hb30p := hb30; (try simp only [dY, dF] at hb30p); refine zo rfl rfl rfl rfl hb30 <| zm rfl rfl <| zo rfl rfl rfl rfl hb30 <| z1 rfl (runs_eqS rfl rfl) <| zn rfl rfl hb30 rfl <| zS rfl rfl <| zM <| zb rfl (fun hc27 => ?_) (fun hc27 => ?_)
        · have hcb27 := hc27; (try simp only [dY, dF] at hc27); refine zk <| zR <| zm rfl rfl <| z1 rfl (runs_eqS rfl rfl) <| zm rfl rfl <| zi (t := 36) rfl (fun hb36 => ?_) (fun hb36 => ?_)
          · have hb36p := hb36; (try simp only [dY, dF] at hb36p); refine zo rfl rfl rfl rfl hb36 <| zm rfl rfl <| zo rfl rfl rfl rfl hb36 <| z1 rfl (Grow.len Tryz.underlying118 rfl hg) <| zo rfl rfl rfl rfl hb36 <| z1 rfl (runs_gtr rfl rfl) <| zt rfl rfl hb36 rfl <| zM <| zX (Value × Own × List ByteArray) (fun y w => St w0 w J (y.2.1 ++ L) ∧ Grow 9 1 y.1 (y.2.2).length ((y.2.2).map Value.string) y.2.1 ∧ (∀ z ∈ y.2.2, z.size ≤ 120000) ∧ y.2.2.length ≤ ps.length) (fun y => [(3, y.1), (6, .string rs), (7, .bool (rs.toList == (ByteArray.mk #[]).toList))]) ?_ ?_
            · refine zb rfl (fun hc40 => ?_) (fun hc40 => ?_)
              · have hcb40 := hc40; (try simp only [dY, dF] at hc40); refine zg <| zm rfl rfl <| zm rfl rfl <| z1 rfl (Grow.len Tryz.underlying118 rfl hg) <| z1 rfl (runs_sub rfl rfl (by omega)) ?_
                have h40p : 0 < ps.length := by first | exact absurd hcb40 (by decide) | omega
                have hgt := Grow.take hg (hi := ps.length - 1) (by omega); refine z1 rfl (Grow.slice_h Tryz.underlying118 ti9 rfl rfl hg (by omega)) ?_; rw [show (((ps.length : Nat) : Int) - 1).toNat = ps.length - 1 by omega]
                have hgt2 : Grow 9 1 (partV vl 0 (ps.length - 1) 1) (ps.take (ps.length - 1)).length ((ps.take (ps.length - 1)).map Value.string) Lo := by
                  rw [List.length_take, Nat.min_eq_left (by omega), List.map_take]
                  simpa using hgt
                refine zS rfl rfl <| zd ?_; exact zv (_, Lo, ps.take (ps.length - 1)) ⟨hst, hgt2, (fun x hx => hps x (List.mem_of_mem_take hx)), by rw [List.length_take]; omega⟩ ⟨rfl, rfl, rfl, trivial⟩
              · refine zj ?_; exact zv (vl, Lo, ps) ⟨hst, hg, hps, Nat.le_refl _⟩ ⟨rfl, rfl, rfl, trivial⟩
            · clear hst; rintro ⟨v3, L3, p3⟩ w ⟨hst, hg3, hps3, hpl3⟩; dsimp only at hst hg3 hps3 hpl3 ⊢; refine za <| zR <| zm rfl rfl <| zM <| zb rfl (fun hc46 => ?_) (fun hc46 => ?_)
              · have hcb46 := hc46; (try simp only [dY, dF] at hc46); refine zg <| zm rfl rfl <| ze rfl (runs_lit1R (xs := [Value.string (ByteArray.mk #[])]) Tryz.underlying118 ti9 (by decide) rfl rfl rfl (by simp [Value.oneCell']) hst) ?_; clear hst; rintro u6 w ⟨I6, hI6, hst, h6⟩; replace hle := hle.trans hI6; have hD : RdL _ 1 u6 1 [Value.string (ByteArray.mk #[])] := h6; refine ze rfl (runs_appendR Tryz.underlying118 ti9 rfl (by decide) rfl rfl hst hg3 hD (by omega) (by unfold maxLen; omega)) ?_; clear hst; rintro uN w ⟨LvN, hst, hgN0⟩; obtain ⟨psN, hpe⟩ : ∃ x, x = p3 ++ [ByteArray.mk #[]] := ⟨_, rfl⟩
                have hgN : Grow 9 1 uN (psN).length ((psN).map Value.string) LvN := by rw [hpe, List.length_append, List.map_append]; exact hgN0
                have hpsN : ∀ x ∈ psN, x.size ≤ 120000 := by
                  rw [hpe]; intro x hx
                  rcases List.mem_append.1 hx with hx | hx
                  · exact hps3 x hx
                  · rw [List.mem_singleton.1 hx]; decide
                have hplN : psN.length = p3.length + 1 := by rw [hpe, List.length_append]; rfl
                refine zS rfl rfl <| zd <| zh ?_; exact zv (_, uN, LvN, psN) ⟨hle, hst, hgN, hpsN, by dsimp only; omega⟩ ⟨rfl, rfl, rfl, trivial⟩
              · have hcb46 := hc46; (try simp only [dY, dF] at hc46); refine zj <| zh ?_; exact zv (J, v3, L3, p3) ⟨hle, hst, hg3, hps3, by dsimp only; omega⟩ ⟨rfl, rfl, rfl, trivial⟩
          · have hb36p := hb36; (try simp only [dY, dF] at hb36p); refine zH rfl rfl rfl rfl rfl rfl rfl rfl hb36 <| zn rfl rfl hb36 rfl <| zM <| zX (Value × Own × List ByteArray) (fun y w => St w0 w J (y.2.1 ++ L) ∧ Grow 9 1 y.1 (y.2.2).length ((y.2.2).map Value.string) y.2.1 ∧ (∀ z ∈ y.2.2, z.size ≤ 120000) ∧ y.2.2.length ≤ ps.length) (fun y => [(3, y.1), (6, .string rs), (7, .bool (rs.toList == (ByteArray.mk #[]).toList))]) ?_ ?_
            · refine zb rfl (fun hc40 => ?_) (fun hc40 => ?_)
              · have hcb40 := hc40; (try simp only [dY, dF] at hc40); refine zg <| zm rfl rfl <| zm rfl rfl <| z1 rfl (Grow.len Tryz.underlying118 rfl hg) <| z1 rfl (runs_sub rfl rfl (by omega)) ?_
                have h40p : 0 < ps.length := by first | exact absurd hcb40 (by decide) | omega
                have hgt := Grow.take hg (hi := ps.length - 1) (by omega); refine z1 rfl (Grow.slice_h Tryz.underlying118 ti9 rfl rfl hg (by omega)) ?_; rw [show (((ps.length : Nat) : Int) - 1).toNat = ps.length - 1 by omega]
                have hgt2 : Grow 9 1 (partV vl 0 (ps.length - 1) 1) (ps.take (ps.length - 1)).length ((ps.take (ps.length - 1)).map Value.string) Lo := by
                  rw [List.length_take, Nat.min_eq_left (by omega), List.map_take]
                  simpa using hgt
                refine zS rfl rfl <| zd ?_; exact zv (_, Lo, ps.take (ps.length - 1)) ⟨hst, hgt2, (fun x hx => hps x (List.mem_of_mem_take hx)), by rw [List.length_take]; omega⟩ ⟨rfl, rfl, rfl, trivial⟩
              · refine zj ?_; exact zv (vl, Lo, ps) ⟨hst, hg, hps, Nat.le_refl _⟩ ⟨rfl, rfl, rfl, trivial⟩
            · clear hst; rintro ⟨v3, L3, p3⟩ w ⟨hst, hg3, hps3, hpl3⟩; dsimp only at hst hg3 hps3 hpl3 ⊢; refine za <| zR <| zm rfl rfl <| zM <| zb rfl (fun hc46 => ?_) (fun hc46 => ?_)
              · have hcb46 := hc46; (try simp only [dY, dF] at hc46); refine zg <| zm rfl rfl <| ze rfl (runs_lit1R (xs := [Value.string (ByteArray.mk #[])]) Tryz.underlying118 ti9 (by decide) rfl rfl rfl (by simp [Value.oneCell']) hst) ?_; clear hst; rintro u8 w ⟨I8, hI8, hst, h8⟩; replace hle := hle.trans hI8; have hD : RdL _ 1 u8 1 [Value.string (ByteArray.mk #[])] := h8; refine ze rfl (runs_appendR Tryz.underlying118 ti9 rfl (by decide) rfl rfl hst hg3 hD (by omega) (by unfold maxLen; omega)) ?_; clear hst; rintro uN w ⟨LvN, hst, hgN0⟩; obtain ⟨psN, hpe⟩ : ∃ x, x = p3 ++ [ByteArray.mk #[]] := ⟨_, rfl⟩
                have hgN : Grow 9 1 uN (psN).length ((psN).map Value.string) LvN := by rw [hpe, List.length_append, List.map_append]; exact hgN0
                have hpsN : ∀ x ∈ psN, x.size ≤ 120000 := by
                  rw [hpe]; intro x hx
                  rcases List.mem_append.1 hx with hx | hx
                  · exact hps3 x hx
                  · rw [List.mem_singleton.1 hx]; decide
                have hplN : psN.length = p3.length + 1 := by rw [hpe, List.length_append]; rfl
                refine zS rfl rfl <| zd <| zh ?_; exact zv (_, uN, LvN, psN) ⟨hle, hst, hgN, hpsN, by dsimp only; omega⟩ ⟨rfl, rfl, rfl, trivial⟩
              · have hcb46 := hc46; (try simp only [dY, dF] at hc46); refine zj <| zh ?_; exact zv (J, v3, L3, p3) ⟨hle, hst, hg3, hps3, by dsimp only; omega⟩ ⟨rfl, rfl, rfl, trivial⟩
        · have hcb27 := hc27; (try simp only [dY, dF] at hc27); refine zg <| zm rfl rfl <| zm rfl rfl <| zK rfl call97 rfl rfl (rpct_spec hst p (by omega)) ?_; clear hst; rintro e w ⟨J24, hJ24, rfl, hst⟩; have hel := encB_len p.toList; rw [size_toList] at hel; obtain ⟨ep, hep⟩ : ∃ x, strOf (encB p.toList) = x := ⟨_, rfl⟩
          have hepz : ep.size ≤ 120000 := by rw [← hep, strOfZ]; omega
          rw [hep]; replace hle := hle.trans hJ24; refine ⟨_, rfl, ?_⟩; refine ze rfl (runs_lit1R (xs := [Value.string ep]) Tryz.underlying118 ti9 (by decide) rfl rfl rfl (by simp [Value.oneCell']) hst) ?_; clear hst; rintro u11 w ⟨I11, hI11, hst, h11⟩; replace hle := hle.trans hI11; have hD : RdL _ 1 u11 1 [Value.string ep] := h11; refine ze rfl (runs_appendR Tryz.underlying118 ti9 rfl (by decide) rfl rfl hst hg hD (by omega) (by unfold maxLen; omega)) ?_; clear hst; rintro uN w ⟨LvN, hst, hgN0⟩; obtain ⟨psN, hpe⟩ : ∃ x, x = ps ++ [ep] := ⟨_, rfl⟩
          have hgN : Grow 9 1 uN (psN).length ((psN).map Value.string) LvN := by rw [hpe, List.length_append, List.map_append]; exact hgN0
          have hpsN : ∀ x ∈ psN, x.size ≤ 120000 := by
            rw [hpe]; intro x hx
            rcases List.mem_append.1 hx with hx | hx
            · exact hps x hx
            · rw [List.mem_singleton.1 hx]; exact hepz
          have hplN : psN.length = ps.length + 1 := by rw [hpe, List.length_append]; rfl
          refine zS rfl rfl <| zd <| zh ?_; exact zv (_, uN, LvN, psN) ⟨hle, hst, hgN, hpsN, by dsimp only; omega⟩ ⟨rfl, rfl, rfl, trivial⟩
    · clear hle hst hg hps hpl; rintro ⟨J2, vl2, Lo2, ps2⟩ w ⟨hle, hst, hg, hps, hpl⟩; dsimp only at hle hst hg hps hpl ⊢; refine za <| zk <| zR <| zm rfl rfl <| zM <| zb rfl (fun hc50 => ?_) (fun hc50 => ?_)
      · have hcb50 := hc50; (try simp only [dY, dF] at hc50); refine CW.exit ?_; refine AQ.past_exit <| AQ.block_miss rfl ?_; refine AQ.past_exit <| AQ.block_hit <| za <| zR ?_; obtain ⟨J5, hJ5, hst5, hr5⟩ := hg.freeze hst; clear hst; have hst := hst5; replace hle := hle.trans hJ5; have hv5 : RdS J5 vl2 ps2 := hr5; refine zS rfl rfl <| zM <| zk <| zR <| zm rfl rfl <| z1 rfl (RdL.len Tryz.underlying118 rfl hv5) <| zm rfl rfl <| zM <| CW.block <| CW.loop (Nat × ByteArray) (fun x w => St w0 w J5 L ∧ x.1 ≤ ps2.length ∧ x.2.size ≤ x.1 * 120001) (fun x => [(8, .string x.2), (53, vl2), (54, .int .i64 (ps2.length : Nat)), (55, .int .i64 (x.1 : Int))]) (fun x => ps2.length - x.1) ⟨(0, ByteArray.mk #[]), ⟨hst, Nat.zero_le _, Nat.zero_le (0 * 120001)⟩, ⟨rfl, rfl, rfl, rfl, trivial⟩⟩ ?_; rintro ⟨k, out⟩ w ⟨hstn, hk, hout⟩; dsimp only at hstn hk hout ⊢; clear hst; have hst := hstn; clear hstn; have hko : k * 120001 ≤ 10001 * 120001 := Nat.mul_le_mul_right _ (by omega); refine zR <| z1 rfl (runs_lss rfl rfl) <| zM <| zk <| zb rfl (fun hc56 => ?_) (fun hc56 => ?_)
        · have hcb56 := hc56; (try simp only [dY, dF] at hc56)
          have hk1 : k < ps2.length := by omega
          obtain ⟨y, hr⟩ : ∃ r, ps2[k] = r := ⟨_, rfl⟩; have hyz := hps y (by rw [← hr]; exact List.getElem_mem _); refine zj <| za <| zk <| CW.block <| zR <| z1 rfl (RdL.indexAddr Tryz.underlying118 ti9 (by decide) rfl rfl hv5 (by omega)) ?_; refine z1 rfl (runs_load1 sc9 rfl (hst.cell_imm (RdS.at hv5 (by omega) (by omega)))) ?_; rw [show sat ps2 (k : Int) = y by rw [sat_get hk1, hr]]; refine zS rfl rfl <| zM <| zg <| zm rfl rfl <| zm rfl rfl <| z1 rfl (runs_addS rfl rfl (by show 1 + y.size ≤ 9223372036854775807; omega)) ?_; refine z1 rfl (runs_addS rfl rfl (by rw [ByteArray.size_append]; show out.size + (1 + y.size) ≤ 9223372036854775807; omega)) ?_; refine zS rfl rfl <| zd <| zh <| za <| zg <| z1 rfl (runs_add rfl rfl (by omega)) ?_; refine zm rfl rfl <| zd ?_; exact AQ.again (x := (k, out)) (k + 1, _) ⟨hst, by dsimp only; omega, by dsimp only; rw [ByteArray.size_append, ByteArray.size_append, Nat.add_mul]; show out.size + (1 + y.size) ≤ _; omega⟩ ⟨rfl, rfl, rfl, rfl, trivial⟩ (by dsimp only; omega)
        · have hcb56 := hc56; (try simp only [dY, dF] at hc56); refine CW.exit ?_; refine AQ.past_exit <| AQ.past_exit <| AQ.block_hit <| za <| zR <| zm rfl rfl <| zS rfl rfl <| zM <| CW.ret <| z9 rfl rfl ?_; exact ⟨_, _, hle, rfl, by omega, hst⟩
      · have hcb50 := hc50; (try simp only [dY, dF] at hc50); have hrp := ne_empty hcb50; refine zj <| za <| zg <| zm rfl rfl <| z1 rfl (runs_sliceS_l Tryz.underlying9 rfl rfl (by omega)) ?_; obtain ⟨c1, hc1⟩ : ∃ c, rs.extract ((1 : Int)).toNat rs.size = c := ⟨_, rfl⟩
        have hcz1 : c1.size + 1 ≤ rs.size := by rw [← hc1, ByteArray.size_extract]; show min rs.size rs.size - 1 + 1 ≤ _; omega
        rw [hc1]; refine zS rfl rfl <| zd <| zh ?_; exact AQ.again (x := (J, cur, vl, Lo, ps)) (_, c1, _, _, ps2) ⟨hle, hst, hg, hps, by dsimp only; omega⟩ ⟨rfl, rfl, trivial⟩ (by dsimp only; omega)
theorem printR_zero : (printR (ByteArray.mk #[]) (ByteArray.mk #[]) 0 (ByteArray.mk #[]) (ByteArray.mk #[])).size ≤ 40 := by
  unfold printR originR; rw [if_neg (by decide)]
  decide
theorem USz.zero : USz (ByteArray.mk #[]) (ByteArray.mk #[]) 0 (ByteArray.mk #[]) (ByteArray.mk #[]) := ⟨by decide, by decide, by decide, by decide, by decide⟩
set_option maxRecDepth 100000 in
set_option maxHeartbeats 4000000 in
theorem parse_spec {w0 w : World} {I : Imm} {L : Own} (hst : St w0 w I L) (s : ByteArray) (hs : s.size ≤ 10000) :
    Calls Tryz.prog 60 #[.string s] w fun e w' => ∃ I' sc ho po pa qu ok, I.le I' ∧ e = .returned (.tuple #[.agg #[.string sc, .string ho, .int .i64 po, .string pa, .string qu], .bool ok]) ∧ St w0 w' I' L ∧ USz sc ho po pa qu ∧ (printR sc ho po pa qu).size ≤ 40 := by
  refine enter Tryz.func60 rfl (N := 110) rfl rfl ?_
  simp only [zA, zB, zC, zD, zE, Nat.reduceAdd]
  have hle := Imm.le.refl I; refine zR <| ze rfl (runs_alloc ti111 hst) ?_; clear hst; rintro _ w ⟨b1, rfl, hst⟩; refine zS rfl rfl <| zN <| zm rfl rfl <| zK rfl call89 rfl rfl (rtrim_spec hst s (by omega)) ?_; clear hst; rintro e w ⟨rfl, hst⟩; obtain ⟨s1, hs1⟩ : ∃ x, strOf (trimB s.toList) = x := ⟨_, rfl⟩
  have hs1z : s1.size ≤ 10000 := by rw [← hs1, strOfZ]; exact Nat.le_trans (trimB_len _) (by rw [size_toList]; exact hs)
  rw [hs1]; refine ⟨_, rfl, ?_⟩; refine zS rfl rfl <| zN <| z1 rfl (runs_buildF (cells := [_, _, _, _, _]) bz111 rfl rfl rfl rfl rfl) <| ze rfl (runs_alloc ti111 hst) ?_; clear hst; rintro _ w ⟨b3, rfl, hst⟩; refine zw 0 ti111 rfl rfl hst rfl rfl rfl rfl ?_; clear hst; rintro w hst; (try simp only [sZ, sS] at hst); refine zM <| zk <| zR <| ze rfl (runs_lit1R Tryz.underlying118 ti9 (by decide) rfl rfl rfl (by simp [Value.oneCell']) hst) ?_; clear hst; rintro u5 w ⟨I5, hI5, hst, h5⟩; replace hle := hle.trans hI5; have hL : RdS _ u5 [⟨#[104, 116, 116, 112]⟩, ⟨#[104, 116, 116, 112, 115]⟩] := h5; obtain ⟨vL, rfl⟩ : ∃ v, v = u5 := ⟨_, rfl⟩; obtain ⟨JL, hJL⟩ : ∃ J, J = I5 := ⟨_, rfl⟩; subst hJL; refine z1 rfl (RdL.len Tryz.underlying118 rfl hL) <| zm rfl rfl <| zM <| zX (Imm × ByteArray × ByteArray) (fun y w => I.le y.1 ∧ St w0 w y.1 ((b3, .cells #[.string y.2.1, .string (ByteArray.mk #[]), .int .i64 0, .string (ByteArray.mk #[]), .string (ByteArray.mk #[])] 111) :: (b1, .cells #[.string (ByteArray.mk #[]), .string (ByteArray.mk #[]), .int .i64 0, .string (ByteArray.mk #[]), .string (ByteArray.mk #[])] 111) :: L) ∧ y.2.1.size ≤ 10 ∧ y.2.2.size ≤ 10000) (fun y => [(0, .string y.2.2), (2, .pointer (some ⟨b1, 0, none⟩)), (3, .bool false), (4, .pointer (some ⟨b3, 0, none⟩))]) ?_ ?_
  · refine CW.block <| CW.loop (Nat × Imm) (fun x w => I.le x.2 ∧ RdS x.2 vL [ByteArray.mk #[104, 116, 116, 112], ByteArray.mk #[104, 116, 116, 112, 115]] ∧ St w0 w x.2 ((b3, .cells #[.string (ByteArray.mk #[]), .string (ByteArray.mk #[]), .int .i64 0, .string (ByteArray.mk #[]), .string (ByteArray.mk #[])] 111) :: (b1, .cells #[.string (ByteArray.mk #[]), .string (ByteArray.mk #[]), .int .i64 0, .string (ByteArray.mk #[]), .string (ByteArray.mk #[])] 111) :: L) ∧ x.1 ≤ 2) (fun x => [(0, .string s1), (2, .pointer (some ⟨b1, 0, none⟩)), (3, .bool false), (4, .pointer (some ⟨b3, 0, none⟩)), (19, vL), (20, .int .i64 (2 : Nat)), (21, .int .i64 (x.1 : Int))]) (fun x => 2 - x.1) ⟨(0, _), ⟨hle, hL, hst, Nat.zero_le _⟩, ⟨rfl, rfl, rfl, rfl, rfl, rfl, rfl, trivial⟩⟩ ?_; clear hle hst hL; rintro ⟨k, J1⟩ w ⟨hle, hL, hstn, hk⟩; dsimp only at hle hL hstn hk ⊢; have hst := hstn; clear hstn; refine zR <| z1 rfl (runs_lss rfl rfl) <| zM <| zk <| zb rfl (fun hc22 => ?_) (fun hc22 => ?_)
    · have hcb22 := hc22; (try simp only [dY, dF] at hc22)
      have hk1 : k < 2 := by omega
      refine zj <| za <| zk <| CW.block <| zR <| z1 rfl (RdL.indexAddr Tryz.underlying118 ti9 (by decide) rfl rfl hL (by show 0 ≤ (k : Int) ∧ (k : Int) < 2; omega)) ?_; refine z1 rfl (runs_load1 sc9 rfl (hst.cell_imm (RdS.at hL (by omega) (by show (k : Int) < 2; omega)))) ?_; obtain ⟨y, hy⟩ : ∃ y, sat [ByteArray.mk #[104, 116, 116, 112], ByteArray.mk #[104, 116, 116, 112, 115]] (k : Int) = y := ⟨_, rfl⟩
      have hyz : y.size ≤ 5 := by
        rw [← hy]
        rcases (show k = 0 ∨ k = 1 by omega) with rfl | rfl <;> decide
      rw [hy]; refine zS rfl rfl <| zN <| zm rfl rfl <| z1 rfl (runs_addS rfl rfl (by show y.size + 3 ≤ 9223372036854775807; omega)) ?_; obtain ⟨x, hx⟩ : ∃ x, y ++ ByteArray.mk #[58, 47, 47] = x := ⟨_, rfl⟩
      have hxz : x.size ≤ 8 := by rw [← hx, ByteArray.size_append]; show y.size + 3 ≤ 8; omega
      rw [hx]; refine zS rfl rfl <| zN <| zm rfl rfl <| zK rfl call91 rfl rfl (refLower_spec hst s1 (by omega)) ?_; clear hst; rintro e w ⟨J28, hJ28, rfl, hst⟩; obtain ⟨q, hq⟩ : ∃ q, strOf (lower s1.toList) = q := ⟨_, rfl⟩
      have hqz : q.size = s1.size := by rw [← hq, strOfZ, lower_len, size_toList]
      rw [hq]; replace hL := hL.mono hJ28; replace hle := hle.trans hJ28; refine ⟨_, rfl, ?_⟩; refine zm rfl rfl <| zK rfl call90 rfl rfl (begins_spec hst q x) ?_; clear hst; rintro e w ⟨rfl, hst⟩; refine ⟨_, rfl, ?_⟩; refine zM <| zb rfl (fun hc30 => ?_) (fun hc30 => ?_)
      · have hcb30 := hc30; (try simp only [dY, dF] at hc30); have h30 := preS_le hcb30
        have hx64 : x.size ≤ s1.size := by omega
        refine zk ?_; refine CW.draw (FSt w0 J28 L) (.q 0 (.q 1 (.q 2 (.q 3 (.q 4 (.q 5 (.l 6 (.q 7 .nil)))))))) follows (by kernel_rfl) ⟨_, Imm.le.refl _, hst.draw.drop1.drop1⟩ ?_; replace hst := hst.draw; refine ym rfl rfl rfl <| ym rfl rfl rfl <| ym rfl rfl rfl <| DRW.q rfl rfl (fun w' hF => runs_lenS Tryz.underlying9 rfl) ?_; refine DRW.q rfl rfl (fun w' hF => runs_sliceS_l Tryz.underlying9 rfl rfl (by omega)) ?_; obtain ⟨rest, hrest⟩ : ∃ r, s1.extract ((x.size : Nat) : Int).toNat s1.size = r := ⟨_, rfl⟩
        have hrz : rest.size ≤ 10000 := by rw [← hrest]; exact Nat.le_trans (ext_sz _ _) hs1z
        rw [hrest]; refine yp rfl rfl rfl U111 rfl ti9 rfl <| y0 rfl (runs_store1P ti9 rfl rfl hst (k := 0) rfl rfl (NoFz.zero _) rfl) ?_; clear hst; rintro w hst; (try simp only [sZ, sS] at hst); refine ⟨FSt.of hst (Imm.le.refl _) ((List.sublist_cons_self _ _).trans (List.sublist_cons_self _ _)), ?_⟩; refine yS rfl rfl rfl <| DRW.done <| za <| CW.exit ?_; refine AQ.block_miss rfl ?_; refine AQ.past_exit <| AQ.past_exit <| AQ.block_hit ?_; exact zv (_, y, rest) ⟨hle, hst, by dsimp only; omega, by dsimp only; omega⟩ ⟨rfl, rfl, rfl, rfl, trivial⟩
      · have hcb30 := hc30; (try simp only [dY, dF] at hc30); refine zj <| zh <| za <| zg <| z1 rfl (runs_add rfl rfl (by omega)) ?_; refine zm rfl rfl <| zd ?_; exact AQ.again (x := (k, J1)) (k + 1, _) ⟨hle, hL, hst, by dsimp only; omega⟩ ⟨rfl, rfl, rfl, rfl, rfl, rfl, rfl, trivial⟩ (by dsimp only; omega)
    · refine CW.exit ?_; refine AQ.past_exit <| AQ.past_exit <| AQ.block_hit ?_; exact zv (_, (ByteArray.mk #[]), s1) ⟨hle, hst, by first | decide | (dsimp only; decide), hs1z⟩ ⟨rfl, rfl, rfl, rfl, trivial⟩
  · clear hst hle; rintro ⟨J, sc, s2⟩ w ⟨hle, hstn, hsc, hs2⟩; dsimp only at hle hstn hsc hs2 ⊢; have hst := hstn; clear hstn; refine za <| zk <| zR <| zp rfl rfl U111 rfl ti9 rfl <| zl 0 rfl sc9 rfl hst rfl rfl <| z1 rfl (runs_eqS rfl rfl) <| zM <| zb rfl (fun hc40 => ?_) (fun hc40 => ?_)
    · have hcb40 := hc40; (try simp only [dY, dF] at hc40); refine zR <| z1 rfl (runs_buildF (cells := [_, _, _, _, _]) bz111 rfl rfl rfl rfl rfl) ?_; refine zw 1 ti111 rfl rfl hst rfl rfl rfl rfl ?_; clear hst; rintro w hst; (try simp only [sZ, sS] at hst); refine zS rfl rfl <| zM <| CW.ret <| zr <| AQ.retL (rs := [.cell 2 111, .tmp 3]) (vs := [_, _]) rfl ⟨⟨_, rfl, hst.loadN (vs := [_, _, _, _, _]) (k := 1) ag111 ti111 rfl rfl rfl⟩, rfl, trivial⟩ (by simp) ?_; exact ⟨_, _, _, _, _, _, _, hle, rfl, hst.drop1.drop1, USz.zero, printR_zero⟩
    · have hcb40 := hc40; (try simp only [dY, dF] at hc40); refine zj <| za <| zR <| zm rfl rfl <| zK rfl call92 rfl rfl (until_spec hst s2 ⟨#[58, 47, 63, 35]⟩ (by omega) (by decide)) ?_; clear hst; rintro e w ⟨rfl, hst⟩; have hul := untilL_len (ByteArray.mk #[58, 47, 63, 35]).toList (s2).toList; rw [size_toList] at hul; obtain ⟨h1, hh1⟩ : ∃ x, strOf (untilL (ByteArray.mk #[58, 47, 63, 35]).toList (s2).toList).1 = x := ⟨_, rfl⟩; obtain ⟨r1, hr1⟩ : ∃ x, strOf (untilL (ByteArray.mk #[58, 47, 63, 35]).toList (s2).toList).2 = x := ⟨_, rfl⟩
      have h1z : h1.size ≤ 10000 := by rw [← hh1, strOfZ]; omega
      have r1z : r1.size ≤ 10000 := by rw [← hr1, strOfZ]; omega
      rw [hh1, hr1]; refine ⟨_, rfl, ?_⟩; refine zm rfl rfl <| zx rfl rfl rfl <| zx rfl rfl rfl <| zS rfl rfl <| zS rfl rfl <| zN <| zm rfl rfl <| zK rfl call91 rfl rfl (refLower_spec hst h1 (by omega)) ?_; clear hst; rintro e w ⟨J48, hJ48, rfl, hst⟩; obtain ⟨ho, hho⟩ : ∃ q, strOf (lower h1.toList) = q := ⟨_, rfl⟩
      have hhoz : ho.size ≤ 10000 := by rw [← hho, strOfZ, lower_len, size_toList]; omega
      rw [hho]; replace hle := hle.trans hJ48; refine ⟨_, rfl, ?_⟩; refine zp rfl rfl U111 rfl ti9 rfl ?_; refine zy 0 ti9 rfl rfl hst rfl rfl rfl ?_; clear hst; rintro w hst; (try simp only [sZ, sS] at hst); refine zM <| zk <| zR <| zp rfl rfl U111 rfl ti9 rfl <| zl 0 rfl sc9 rfl hst rfl rfl <| zK rfl call93 rfl rfl (host_spec hst ho (by omega)) ?_; clear hst; rintro e w ⟨hb, rfl, hst⟩; refine ⟨_, rfl, ?_⟩; refine z1 rfl (runs_not rfl) <| zM <| zb rfl (fun hc53 => ?_) (fun hc53 => ?_)
      · have hcb53 := hc53; (try simp only [dY, dF] at hc53); refine zR <| z1 rfl (runs_buildF (cells := [_, _, _, _, _]) bz111 rfl rfl rfl rfl rfl) ?_; refine zw 1 ti111 rfl rfl hst rfl rfl rfl rfl ?_; clear hst; rintro w hst; (try simp only [sZ, sS] at hst); refine zS rfl rfl <| zM <| CW.ret <| zr <| AQ.retL (rs := [.cell 2 111, .tmp 3]) (vs := [_, _]) rfl ⟨⟨_, rfl, hst.loadN (vs := [_, _, _, _, _]) (k := 1) ag111 ti111 rfl rfl rfl⟩, rfl, trivial⟩ (by simp) ?_; exact ⟨_, _, _, _, _, _, _, hle, rfl, hst.drop1.drop1, USz.zero, printR_zero⟩
      · have hcb53 := hc53; (try simp only [dY, dF] at hc53); refine zj <| za <| zk <| zR <| zm rfl rfl <| zK rfl call90 rfl rfl (begins_spec hst r1 _) ?_; clear hst; rintro e w ⟨rfl, hst⟩; refine ⟨_, rfl, ?_⟩; refine zM <| zX (Int × ByteArray) (fun y w => St w0 w J48 ((b3, .cells #[.string sc, .string ho, .int .i64 y.1, .string (ByteArray.mk #[]), .string (ByteArray.mk #[])] 111) :: (b1, .cells #[.string (ByteArray.mk #[]), .string (ByteArray.mk #[]), .int .i64 0, .string (ByteArray.mk #[]), .string (ByteArray.mk #[])] 111) :: L) ∧ y.1 ≤ 2833305 ∧ y.2.size ≤ 10000) (fun y => [(2, .pointer (some ⟨b1, 0, none⟩)), (3, .bool false), (4, .pointer (some ⟨b3, 0, none⟩)), (9, .string y.2)]) ?_ ?_
        · refine zb rfl (fun hc56 => ?_) (fun hc56 => ?_)
          · have hcb56 := hc56; (try simp only [dY, dF] at hc56); refine zR <| zm rfl rfl ?_; have h56 := preS_le hcb56; have h561 : 1 ≤ r1.size := h56; refine z1 rfl (runs_sliceS_l Tryz.underlying9 rfl rfl (by omega)) ?_; obtain ⟨r3, hr3⟩ : ∃ r, r1.extract ((1 : Int)).toNat r1.size = r := ⟨_, rfl⟩
            have hr3z : r3.size ≤ 10000 := by rw [← hr3]; exact Nat.le_trans (ext_sz _ _) r1z
            rw [hr3]; refine zK rfl call92 rfl rfl (until_spec hst r3 ⟨#[47, 63, 35]⟩ (by omega) (by decide)) ?_; clear hst; rintro e w ⟨rfl, hst⟩; have hul := untilL_len (ByteArray.mk #[47, 63, 35]).toList (r3).toList; rw [size_toList] at hul; obtain ⟨port, hport⟩ : ∃ x, strOf (untilL (ByteArray.mk #[47, 63, 35]).toList (r3).toList).1 = x := ⟨_, rfl⟩; obtain ⟨more, hmore⟩ : ∃ x, strOf (untilL (ByteArray.mk #[47, 63, 35]).toList (r3).toList).2 = x := ⟨_, rfl⟩
            have portz : port.size ≤ 10000 := by rw [← hport, strOfZ]; omega
            have morez : more.size ≤ 10000 := by rw [← hmore, strOfZ]; omega
            rw [hport, hmore]; refine ⟨_, rfl, ?_⟩; refine zm rfl rfl <| zx rfl rfl rfl <| zx rfl rfl rfl <| zS rfl rfl <| zS rfl rfl <| zN <| zm rfl rfl <| zK rfl call94 rfl rfl (figures5_spec hst port (by omega)) ?_; clear hst; rintro e w ⟨n, okn, rfl, hn0, hn1, hst⟩; refine ⟨_, rfl, ?_⟩; refine zm rfl rfl <| zx rfl rfl rfl <| zx rfl rfl rfl <| zS rfl rfl <| zS rfl rfl <| zM <| zk <| zk <| zX Bool (fun _ w => St w0 w J48 ((b3, .cells #[.string sc, .string ho, .int .i64 0, .string (ByteArray.mk #[]), .string (ByteArray.mk #[])] 111) :: (b1, .cells #[.string (ByteArray.mk #[]), .string (ByteArray.mk #[]), .int .i64 0, .string (ByteArray.mk #[]), .string (ByteArray.mk #[])] 111) :: L)) (fun b => [(2, .pointer (some ⟨b1, 0, none⟩)), (3, .bool false), (4, .pointer (some ⟨b3, 0, none⟩)), (11, .string more), (12, .int .i64 n), (73, .bool b)]) ?_ ?_
            ·
              refine zg <| zm rfl rfl <| z1 rfl (runs_not rfl) <| zm rfl rfl <| zi (t := 70) rfl (fun hb70 => ?_) (fun hb70 => ?_)
              · refine zG rfl rfl rfl rfl rfl rfl hb70 <| zt rfl rfl hb70 rfl <| zd ?_; exact zv (_ : Bool) hst ⟨rfl, rfl, rfl, rfl, rfl, rfl, trivial⟩
              · refine zo rfl rfl rfl rfl hb70 <| zm rfl rfl <| zo rfl rfl rfl rfl hb70 <| z1 rfl (runs_gtr rfl rfl) <| zn rfl rfl hb70 rfl <| zd ?_; exact zv (_ : Bool) hst ⟨rfl, rfl, rfl, rfl, rfl, rfl, trivial⟩
            · clear hst; rintro bx w hst; refine za <| zb rfl (fun hc73 => ?_) (fun hc73 => ?_)
              · have hcb73 := hc73; (try simp only [dY, dF] at hc73); refine zR <| z1 rfl (runs_buildF (cells := [_, _, _, _, _]) bz111 rfl rfl rfl rfl rfl) ?_; refine zw 1 ti111 rfl rfl hst rfl rfl rfl rfl ?_; clear hst; rintro w hst; (try simp only [sZ, sS] at hst); refine zS rfl rfl <| zM <| CW.ret <| zr <| AQ.meet_ret <| zr <| AQ.retL (rs := [.cell 2 111, .tmp 3]) (vs := [_, _]) rfl ⟨⟨_, rfl, hst.loadN (vs := [_, _, _, _, _]) (k := 1) ag111 ti111 rfl rfl rfl⟩, rfl, trivial⟩ (by simp) ?_; exact ⟨_, _, _, _, _, _, _, hle, rfl, hst.drop1.drop1, USz.zero, printR_zero⟩
              · have hcb73 := hc73; (try simp only [dY, dF] at hc73); refine zj <| za <| zk <| zR <| zm rfl rfl <| zp rfl rfl U111 rfl ti9 rfl <| zl 0 rfl sc9 rfl hst rfl rfl <| zK rfl call95 rfl rfl (uown_spec hst _) ?_; clear hst; rintro e w ⟨on, rfl, hon0, hon1, hst⟩; refine ⟨_, rfl, ?_⟩; refine z1 rfl (runs_neI rfl rfl) <| zM <| zb rfl (fun hc79 => ?_) (fun hc79 => ?_)
                · have hcb79 := hc79; (try simp only [dY, dF] at hc79); refine zg <| zm rfl rfl <| zp rfl rfl U111 rfl ti3 rfl ?_; refine zy 0 ti3 rfl rfl hst rfl rfl rfl ?_; clear hst; rintro w hst; (try simp only [sZ, sS] at hst); refine zM <| zg <| zm rfl rfl <| zS rfl rfl <| zd ?_; exact zv (n, more) ⟨hst, by dsimp only; omega, by dsimp only; omega⟩ ⟨rfl, rfl, rfl, rfl, trivial⟩
                · have hcb79 := hc79; (try simp only [dY, dF] at hc79); refine zj <| za <| zg <| zm rfl rfl <| zS rfl rfl <| zd ?_; exact zv ((0 : Int), more) ⟨hst, by first | decide | (dsimp only; decide), by dsimp only; omega⟩ ⟨rfl, rfl, rfl, rfl, trivial⟩
          · have hcb56 := hc56; (try simp only [dY, dF] at hc56); refine zj ?_; exact zv ((0 : Int), r1) ⟨hst, by first | decide | (dsimp only; decide), by dsimp only; omega⟩ ⟨rfl, rfl, rfl, rfl, trivial⟩
        · clear hst; rintro ⟨po, r2⟩ w ⟨hstn, hpo, hr2⟩; dsimp only at hstn hpo hr2 ⊢; have hst := hstn; clear hstn; refine za <| zR <| zm rfl rfl <| zK rfl call92 rfl rfl (until_spec hst r2 ⟨#[35]⟩ (by omega) (by decide)) ?_; clear hst; rintro e w ⟨rfl, hst⟩; have hul := untilL_len (ByteArray.mk #[35]).toList (r2).toList; rw [size_toList] at hul; obtain ⟨r4, hr4⟩ : ∃ x, strOf (untilL (ByteArray.mk #[35]).toList (r2).toList).1 = x := ⟨_, rfl⟩; obtain ⟨r5, hr5⟩ : ∃ x, strOf (untilL (ByteArray.mk #[35]).toList (r2).toList).2 = x := ⟨_, rfl⟩
          have r4z : r4.size ≤ 10000 := by rw [← hr4, strOfZ]; omega
          have r5z : r5.size ≤ 10000 := by rw [← hr5, strOfZ]; omega
          rw [hr4, hr5]; refine ⟨_, rfl, ?_⟩; refine zm rfl rfl <| zx rfl rfl rfl <| zx rfl rfl rfl <| zS rfl rfl <| zN <| zm rfl rfl <| zK rfl call92 rfl rfl (until_spec hst r4 ⟨#[63]⟩ (by omega) (by decide)) ?_; clear hst; rintro e w ⟨rfl, hst⟩; have hul := untilL_len (ByteArray.mk #[63]).toList (r4).toList; rw [size_toList] at hul; obtain ⟨pa0, hpa0⟩ : ∃ x, strOf (untilL (ByteArray.mk #[63]).toList (r4).toList).1 = x := ⟨_, rfl⟩; obtain ⟨q0, hq0⟩ : ∃ x, strOf (untilL (ByteArray.mk #[63]).toList (r4).toList).2 = x := ⟨_, rfl⟩
          have pa0z : pa0.size ≤ 10000 := by rw [← hpa0, strOfZ]; omega
          have q0z : q0.size ≤ 10000 := by rw [← hq0, strOfZ]; omega
          rw [hpa0, hq0]; refine ⟨_, rfl, ?_⟩; refine zm rfl rfl <| zx rfl rfl rfl <| zx rfl rfl rfl <| zS rfl rfl <| zS rfl rfl <| zN <| zm rfl rfl <| zK rfl call96 rfl rfl (dots_spec hst pa0 (by omega)) ?_; clear hst; rintro e w ⟨J94, pa, hJ94, rfl, hpaz, hst⟩; replace hle := hle.trans hJ94; refine ⟨_, rfl, ?_⟩; refine zp rfl rfl U111 rfl ti9 rfl ?_; refine zy 0 ti9 rfl rfl hst rfl rfl rfl ?_; clear hst; rintro w hst; (try simp only [sZ, sS] at hst); refine zM <| zk <| zR <| zm rfl rfl <| z1 rfl (runs_lenS Tryz.underlying9 rfl) <| z1 rfl (runs_gtr rfl rfl) <| zM <| zX (Imm × ByteArray) (fun y w => I.le y.1 ∧ St w0 w y.1 ((b3, .cells #[.string sc, .string ho, .int .i64 po, .string pa, .string y.2] 111) :: (b1, .cells #[.string (ByteArray.mk #[]), .string (ByteArray.mk #[]), .int .i64 0, .string (ByteArray.mk #[]), .string (ByteArray.mk #[])] 111) :: L) ∧ y.2.size ≤ 1000000) (fun y => [(2, .pointer (some ⟨b1, 0, none⟩)), (3, .bool false), (4, .pointer (some ⟨b3, 0, none⟩))]) ?_ ?_
          · refine zb rfl (fun hc98 => ?_) (fun hc98 => ?_)
            · have hcb98 := hc98; (try simp only [dY, dF] at hc98); refine zg <| zm rfl rfl <| z1 rfl (runs_sliceS_l Tryz.underlying9 rfl rfl (by omega)) ?_; obtain ⟨q1, hq1⟩ : ∃ r, q0.extract ((1 : Int)).toNat q0.size = r := ⟨_, rfl⟩
              have hq1z : q1.size ≤ 10000 := by rw [← hq1]; exact Nat.le_trans (ext_sz _ _) q0z
              rw [hq1]; refine zK rfl call97 rfl rfl (rpct_spec hst q1 (by omega)) ?_; clear hst; rintro e w ⟨J101, hJ101, rfl, hst⟩; have hel := encB_len q1.toList; rw [size_toList] at hel; obtain ⟨q2, hq2⟩ : ∃ x, strOf (encB q1.toList) = x := ⟨_, rfl⟩
              have hq2z : q2.size ≤ 120000 := by rw [← hq2, strOfZ]; omega
              rw [hq2]; replace hle := hle.trans hJ101; refine ⟨_, rfl, ?_⟩; refine z1 rfl (runs_addS rfl rfl (by show 1 + q2.size ≤ 9223372036854775807; omega)) ?_; obtain ⟨qu, hqu⟩ : ∃ x, ByteArray.mk #[63] ++ q2 = x := ⟨_, rfl⟩
              have hquz : qu.size ≤ 120001 := by rw [← hqu, ByteArray.size_append]; show 1 + q2.size ≤ 120001; omega
              rw [hqu]; refine zp rfl rfl U111 rfl ti9 rfl ?_; refine zy 0 ti9 rfl rfl hst rfl rfl rfl ?_; clear hst; rintro w hst; (try simp only [sZ, sS] at hst); refine zd ?_; exact zv (_, qu) ⟨hle, hst, by dsimp only; omega⟩ ⟨rfl, rfl, rfl, trivial⟩
            · refine zj ?_; exact zv (_, (ByteArray.mk #[])) ⟨hle, hst, by first | decide | (dsimp only; decide)⟩ ⟨rfl, rfl, rfl, trivial⟩
          · clear hst hle; rintro ⟨J5, qu⟩ w ⟨hle, hstn, hqu⟩; dsimp only at hle hstn hqu ⊢; have hst := hstn; clear hstn; have hz : USz sc ho po pa qu := ⟨by omega, by omega, by omega, by omega, by omega⟩; refine za <| zk <| zR <| z1 rfl (runs_loadN (vs := [_, _, _, _, _]) ag111 ti111 rfl hst (k := 0) rfl rfl rfl) ?_; refine zK rfl call63 rfl rfl (uprint_spec hst sc ho po pa qu hz) ?_; clear hst; rintro e w ⟨rfl, hst⟩; refine ⟨_, rfl, ?_⟩; refine z1 rfl (runs_lenS Tryz.underlying9 rfl) <| z1 rfl (runs_gtr rfl rfl) <| zM <| zb rfl (fun hc107 => ?_) (fun hc107 => ?_)
            · have hcb107 := hc107; (try simp only [dY, dF] at hc107); refine zR <| z1 rfl (runs_buildF (cells := [_, _, _, _, _]) bz111 rfl rfl rfl rfl rfl) ?_; refine zw 1 ti111 rfl rfl hst rfl rfl rfl rfl ?_; clear hst; rintro w hst; (try simp only [sZ, sS] at hst); refine zS rfl rfl <| zM <| CW.ret <| zr <| AQ.retL (rs := [.cell 2 111, .tmp 3]) (vs := [_, _]) rfl ⟨⟨_, rfl, hst.loadN (vs := [_, _, _, _, _]) (k := 1) ag111 ti111 rfl rfl rfl⟩, rfl, trivial⟩ (by simp) ?_; exact ⟨_, _, _, _, _, _, _, hle, rfl, hst.drop1.drop1, USz.zero, printR_zero⟩
            · have hcb107 := hc107; (try simp only [dY, dF] at hc107); refine zj <| za <| zR <| z1 rfl (runs_loadN (vs := [_, _, _, _, _]) ag111 ti111 rfl hst (k := 0) rfl rfl rfl) ?_; refine zw 1 ti111 rfl rfl hst rfl rfl rfl rfl ?_; clear hst; rintro w hst; (try simp only [sZ, sS] at hst); refine zS rfl rfl <| zM <| CW.ret <| AQ.retL (rs := [.cell 2 111, .tmp 3]) (vs := [_, _]) rfl ⟨⟨_, rfl, hst.loadN (vs := [_, _, _, _, _]) (k := 1) ag111 ti111 rfl rfl rfl⟩, rfl, trivial⟩ (by simp) ?_; exact ⟨_, _, _, _, _, _, _, hle, rfl, hst.drop1.drop1, hz, by omega⟩
end Go.Proofs.YtadgbifmiooikaaGreatX
