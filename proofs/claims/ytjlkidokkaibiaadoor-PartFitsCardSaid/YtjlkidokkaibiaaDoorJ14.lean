/- A piece fits where it should, and nowhere else. -/
import Derived.Test.YtjlkidokkaibiaaDoorT
import Derived.Test.YtjlkidokkaibiaaDoorJ11
import Derived.Test.YtjlkidokkaibiaaDoorXU
namespace Go.Proofs.YtjlkidokkaibiaaDoorX
set_option linter.unusedVariables false
set_option linter.unusedSimpArgs false
open Go Go.RowKit Go.Proofs

theorem Grow.shape {e : TypeId} {size n : Nat} {v : Value} {xs : List Value} {Lv : Own} (hg : Grow e size v n xs Lv) (h0 : 0 < n) : ∃ g cap cur, v = .slice (some ⟨g, 0, none⟩) n cap ∧ Lv = [(g, .cells cur e)] ∧ n * size ≤ cur.size := by
  obtain ⟨h1, h2, ⟨rfl, rfl, rfl⟩ | ⟨g, cap, cur, rfl, rfl, h3, h4, h5, h6⟩⟩ := hg
  · omega
  · exact ⟨g, cap, cur, rfl, rfl, by rw [h5]; exact Nat.mul_le_mul_right _ h3⟩
theorem Grow.set1 {e : TypeId} {size n g cap : Nat} {xs : List Value} {cur : Array Value} (hg : Grow e size (.slice (some ⟨g, 0, none⟩) n cap) n xs [(g, .cells cur e)]) {i : Nat} (hi : i < n * size) {u : Value} (hu : u.oneCell' = true) :
    Grow e size (.slice (some ⟨g, 0, none⟩) n cap) n (xs.set i u) [(g, .cells (cur.setIfInBounds i u) e)] := by
  obtain ⟨h1, h2, ⟨h, _⟩ | ⟨g', cap', cur', h, h', h3, h4, h5, h6⟩⟩ := hg
  · cases h
  · obtain ⟨rfl, rfl⟩ : g = g' ∧ cap = cap' := by simpa using h
    obtain rfl : cur = cur' := by simpa using h'
    refine ⟨by rw [List.length_set]; exact h1, fun x hx => ?_, .inr ⟨g, cap, _, rfl, rfl, h3, h4, by rw [Array.size_setIfInBounds]; exact h5, ?_⟩⟩
    · rcases List.mem_or_eq_of_mem_set hx with h | rfl
      · exact h2 x h
      · exact hu
    · rw [Array.toList_setIfInBounds, ← h6, List.take_set]
theorem fits_own {w0 w : World} {I : Imm} {L Lv : Own} {p : Nat × Obj} (hst : St w0 w I (p :: (Lv ++ L))) {vh : Value} {hs : List HRow} {n : Nat} (hg : Grow 26 2 vh n (hs.flatMap hrow) Lv) (hn : n = hs.length) (code : Int) (cut : Bool) (body : ByteArray) (hok : HSm hs) (got : Int) (tag : ByteArray) :
    Calls Tryd.prog 17 #[.agg #[.int .i64 code, vh, .string body, .bool cut], .int .i64 got, .string tag] w fun e w' => ∃ I', Imm.le I I' ∧ e = .returned (.tuple #[.int .i64 (fitsR code hs body got tag).1, .bool (fitsR code hs body got tag).2]) ∧ St w0 w' I' (p :: (Lv ++ L)) := by
  subst hn
  obtain ⟨I1, h1, h2, h3, h4⟩ := hg.lend (hst.perm List.perm_middle.symm)
  refine (fits_spec h2 code cut body h3 hok got tag).mono fun e w' ⟨I', g1, g2, g3⟩ => ?_
  obtain ⟨I3, k1, _, k2⟩ := h4 w' I' _ g1 g3
  exact ⟨I3, k1, g2, k2.perm List.perm_middle⟩
def enN : ByteArray := ⟨#[69, 84, 97, 103]⟩
def crN : ByteArray := ⟨#[67, 111, 110, 116, 101, 110, 116, 45, 82, 97, 110, 103, 101]⟩
def v1T : ByteArray := ⟨#[34, 118, 49, 34]⟩
def v2T : ByteArray := ⟨#[34, 118, 50, 34]⟩
def wkT : ByteArray := ⟨#[87, 47, 34, 118, 49, 34]⟩
def hds (tg sp : ByteArray) (ln : Option ByteArray) : List HRow := match ln with
  | none => [(enN, tg), (crN, sp)]
  | some l => [(enN, tg), (crN, sp), (clenS, l)]
theorem hds_tag (tg sp : ByteArray) (ln : Option ByteArray) : getH etagS (hds tg sp ln) = (tg, true) := by
  cases ln <;> simp only [getH, hds, lowEq, ByteArray.toList_eq] <;> rfl
theorem hds_span (tg sp : ByteArray) (ln : Option ByteArray) : getH cranS (hds tg sp ln) = (sp, true) := by
  cases ln <;> simp only [getH, hds, lowEq, ByteArray.toList_eq] <;> rfl
theorem hds_len (tg sp : ByteArray) (ln : Option ByteArray) : getH clenS (hds tg sp ln) = match ln with | none => (⟨#[]⟩, false) | some l => (l, true) := by
  cases ln <;> simp only [getH, hds, lowEq, ByteArray.toList_eq] <;> rfl
theorem v1_strong : strongB v1T.toList = true := by simp only [ByteArray.toList_eq]; rfl
theorem wk_weak : strongB wkT.toList = false := by simp only [ByteArray.toList_eq]; rfl
theorem hds_v1 (sp : ByteArray) (ln : Option ByteArray) : tagR (hds v1T sp ln) = v1T := by
  unfold tagR
  rw [hds_tag, if_pos v1_strong]
theorem hds_wk (sp : ByteArray) (ln : Option ByteArray) : tagR (hds wkT sp ln) = ⟨#[]⟩ := by
  unfold tagR
  rw [hds_tag, if_neg (by rw [wk_weak]; decide)]
theorem hds_size (tg sp : ByteArray) (ln : Option Nat) (body : ByteArray) (h : ∀ k, ln = some k → k < 1000000) : sizeR (hds tg sp (ln.map fun k => strOf (Lib.decDigits k))) body = match ln with | none => ((body.size : Int), true) | some k => ((k : Int), true) := by
  unfold sizeR
  rw [hds_len]
  cases ln with
  | none => simp
  | some k =>
    simp only [Option.map_some, Bool.true_eq_false, if_false, strOf_toList]
    rw [number_dd, if_pos (h k rfl)]
    rfl
theorem hds_sm (tg sp : ByteArray) (ln : Option ByteArray) (h1 : tg.size ≤ 1000) (h2 : sp.size ≤ 1000) (h3 : ∀ l, ln = some l → l.size ≤ 1000) : HSm (hds tg sp ln) := by
  cases ln with
  | none =>
    refine ⟨fun r hr => ?_, by show 2 ≤ _; decide⟩
    simp only [hds, List.mem_cons, List.not_mem_nil, or_false] at hr
    rcases hr with rfl | rfl
    · exact ⟨Nat.le_of_ble_eq_true rfl, by dsimp only; omega⟩
    · exact ⟨Nat.le_of_ble_eq_true rfl, by dsimp only; omega⟩
  | some l =>
    have := h3 l rfl
    refine ⟨fun r hr => ?_, by show 3 ≤ _; decide⟩
    simp only [hds, List.mem_cons, List.not_mem_nil, or_false] at hr
    rcases hr with rfl | rfl | rfl
    · exact ⟨Nat.le_of_ble_eq_true rfl, by dsimp only; omega⟩
    · exact ⟨Nat.le_of_ble_eq_true rfl, by dsimp only; omega⟩
    · exact ⟨Nat.le_of_ble_eq_true rfl, by dsimp only; omega⟩
/-- Where it fits. -/
theorem hds_fit {fr sz : Int} (h0 : 0 ≤ fr) (h1 : fr < sz) (h2 : sz ≤ 40) (body : ByteArray) (hb : (body.size : Int) = sz - fr) (ln : Option Nat) (hl : ln = none ∨ ln = some (sz - fr).toNat) :
    fitsR 206 (hds v1T (spanT fr (sz - 1) sz) (ln.map fun k => strOf (Lib.decDigits k))) body fr v1T = (sz, true) := by
  unfold fitsR
  have hz := hds_size v1T (spanT fr (sz - 1) sz) ln body (fun k hk => by rcases hl with h | h <;> rw [h] at hk <;> cases hk; omega)
  have hz2 : sizeR (hds v1T (spanT fr (sz - 1) sz) (ln.map fun k => strOf (Lib.decDigits k))) body = (sz - fr, true) := by
    rw [hz]
    rcases hl with rfl | rfl
    · rw [hb]
    · show ((((sz - fr).toNat : Nat) : Int), true) = _
      rw [Int.toNat_of_nonneg (by omega)]
  have hs := spanT_law fr (sz - 1) sz h0 (by omega) (by omega)
  rw [if_pos (by omega)] at hs
  rw [if_pos]
  · rw [hds_span, hs]
  · unfold FitOk
    rw [hds_v1, hds_span, hz2, hs]
    refine ⟨rfl, ?_, by simp, rfl, rfl, rfl, rfl, by dsimp only; omega⟩
    simp only [ByteArray.toList_eq]
    rfl
theorem hds_not {code : Int} {hs : List HRow} {body tag : ByteArray} {got : Int} (h : ¬ FitOk code hs body got tag) : fitsR code hs body got tag = (0, false) := if_neg h
theorem hds_got {fr sz off : Int} (h0 : 0 ≤ fr) (h1 : fr < sz) (h2 : sz ≤ 40) (ho : 1 ≤ off) (body tag : ByteArray) (ln : Option ByteArray) (tg : ByteArray) : fitsR 206 (hds tg (spanT fr (sz - 1) sz) ln) body (fr + off) tag = (0, false) := by
  refine hds_not fun h => ?_
  unfold FitOk at h
  have hs := spanT_law fr (sz - 1) sz h0 (by omega) (by omega)
  rw [if_pos (by omega)] at hs
  rw [hds_span, hs] at h
  have := h.2.2.2.2.2.1
  dsimp only at this
  omega
theorem hds_t2 (code : Int) (sp body : ByteArray) (ln : Option ByteArray) (got : Int) : fitsR code (hds v1T sp ln) body got v2T = (0, false) := by
  refine hds_not fun h => ?_
  unfold FitOk at h
  rw [hds_v1] at h
  have := h.2.2.1
  simp only [ByteArray.toList_eq] at this
  exact absurd this (by decide)
theorem hds_t0 (code : Int) (hs : List HRow) (body : ByteArray) (got : Int) : fitsR code hs body got ⟨#[]⟩ = (0, false) := by
  refine hds_not fun h => ?_
  unfold FitOk at h
  have := h.2.1
  simp only [ByteArray.toList_eq] at this
  exact absurd this (by decide)
theorem hds_c (hs : List HRow) (body tag : ByteArray) (got : Int) : fitsR 200 hs body got tag = (0, false) := by
  refine hds_not fun h => ?_
  exact absurd h.1 (by decide)
theorem hds_tot {fr sz off : Int} (h0 : 0 ≤ fr) (h1 : fr < sz) (h2 : sz ≤ 40) (ho : 1 ≤ off) (ho2 : off ≤ 30) (body tag : ByteArray) (ln : Option ByteArray) (tg : ByteArray) (got : Int) : fitsR 206 (hds tg (spanT fr (sz - 1) (sz + off)) ln) body got tag = (0, false) := by
  refine hds_not fun h => ?_
  unfold FitOk at h
  have hs := spanT_law fr (sz - 1) (sz + off) h0 (by omega) (by omega)
  rw [if_pos (by omega)] at hs
  rw [hds_span, hs] at h
  have := h.2.2.2.2.2.2.1
  dsimp only at this
  omega
theorem hds_ln {fr sz off : Int} (h0 : 0 ≤ fr) (h1 : fr < sz) (h2 : sz ≤ 40) (ho : 1 ≤ off) (ho2 : off ≤ 30) (body tag : ByteArray) (tg : ByteArray) (got : Int) : fitsR 206 (hds tg (spanT fr (sz - 1) sz) (some (strOf (Lib.decDigits (sz - fr + off).toNat)))) body got tag = (0, false) := by
  refine hds_not fun h => ?_
  unfold FitOk at h
  have hs := spanT_law fr (sz - 1) sz h0 (by omega) (by omega)
  rw [if_pos (by omega)] at hs
  have hz := hds_size tg (spanT fr (sz - 1) sz) (some (sz - fr + off).toNat) body (fun k hk => by cases hk; omega)
  rw [Option.map_some] at hz
  rw [hds_span, hs, hz] at h
  have := h.2.2.2.2.2.2.2
  dsimp only at this
  rw [Int.toNat_of_nonneg (by omega)] at this
  omega
theorem hds_w (code : Int) (sp body : ByteArray) (ln : Option ByteArray) (got : Int) : fitsR code (hds wkT sp ln) body got v1T = (0, false) := by
  refine hds_not fun h => ?_
  unfold FitOk at h
  rw [hds_wk] at h
  have := h.2.2.1
  simp only [ByteArray.toList_eq] at this
  exact absurd this (by decide)
theorem spanT_size (a b c : Int) (ha : 0 ≤ a) (hb : 0 ≤ b) (hc : 0 ≤ c) (h : a < 10000000 ∧ b < 10000000 ∧ c < 10000000) : (spanT a b c).size ≤ 1000 := by
  have la := digits_len 7 a.toNat (by omega)
  have lb := digits_len 7 b.toNat (by omega)
  have lc := digits_len 7 c.toNat (by omega)
  unfold spanT
  simp only [ByteArray.size_append, strOfZ, show bytesS.size = 6 from rfl, show (ByteArray.mk #[45]).size = 1 from rfl, show (ByteArray.mk #[47]).size = 1 from rfl]
  omega
theorem dd_size (k : Nat) (h : k < 10000000) : (strOf (Lib.decDigits k)).size ≤ 1000 := by
  have := digits_len 7 k h
  rw [strOfZ]
  omega
set_option maxRecDepth 100000 in
set_option maxHeartbeats 4000000 in
theorem pfits_spec {w0 w : World} {I : Imm} {L : Own} (hst : St w0 w I L) (hT : TabK I) (z0 f0 o0 h0 : Int) (hz0 : i64ok z0) (hf0 : i64ok f0) (ho0 : i64ok o0) (hh0 : i64ok h0) :
    Calls Tryd.prog 6 #[.int .i64 z0, .int .i64 f0, .int .i64 o0, .int .i64 h0] w fun e w' => e = .returned (.bool true) ∧ ∃ I', I.le I' ∧ St w0 w' I' L := by
  refine enter Tryd.func6 rfl (N := 170) rfl rfl ?_
  simp only [List.zipIdx_cons, List.zipIdx_nil, List.map_cons, List.map_nil, Nat.zero_add, Nat.reduceAdd]
  have hle := Imm.le.refl I
  refine CW.seq ?_
  -- region 0
  refine CW.region ?_
  refine RW.op1 rfl (runs_assign rfl) ?_
  refine RW.done ?_
  refine AQ.next ?_
  refine CW.seq ?_
  -- region 1
  refine CW.region ?_
  refine RW.op1 rfl (runs_move rfl) ?_
  refine RW.call rfl call9 rfl rfl (within_spec hst (v := z0) (n := 40) (hz0) (by unfold i64ok; decide)) ?_
  rintro e w ⟨rfl, hstn⟩
  clear hst
  have hst := hstn
  clear hstn
  have hwx := (within_range (z0) 40).1
  have hxx := (within_range (z0) 40).2 (by decide)
  generalize within (z0) 40 = x at hwx hxx ⊢
  refine ⟨_, rfl, ?_⟩
  refine RW.op1 rfl (runs_add rfl rfl (by omega)) ?_
  refine RW.op1 rfl (runs_assign rfl) ?_
  obtain ⟨sz, hsz⟩ : ∃ sz, 1 + x = sz := ⟨_, rfl⟩
  rw [hsz]
  refine RW.done ?_
  refine AQ.next ?_
  refine CW.seq ?_
  -- region 2
  refine CW.region ?_
  refine RW.op1 rfl (runs_move rfl) ?_
  refine RW.op1 rfl (runs_move rfl) ?_
  refine RW.call rfl call9 rfl rfl (within_spec hst (v := f0) (n := sz) (hf0) (by unfold i64ok; omega)) ?_
  rintro e w ⟨rfl, hstn⟩
  clear hst
  have hst := hstn
  clear hstn
  have hwf := (within_range (f0) sz).1
  have hxf := (within_range (f0) sz).2 (by omega)
  generalize within (f0) sz = fr at hwf hxf ⊢
  have la := digits_len 7 fr.toNat (by omega)
  have lb := digits_len 7 (sz - 1).toNat (by omega)
  have lc := digits_len 7 sz.toNat (by omega)
  have ld := digits_len 7 (sz - fr).toNat (by omega)
  refine ⟨_, rfl, ?_⟩
  refine RW.op1 rfl (runs_assign rfl) ?_
  refine RW.done ?_
  refine AQ.next ?_
  refine CW.seq ?_
  -- region 3
  refine CW.region ?_
  refine RW.op1 rfl (runs_buildF (cells := [_, _]) bz26 rfl rfl rfl rfl rfl) ?_
  refine RW.op1 rfl (runs_move rfl) ?_
  refine RW.call rfl call13 rfl rfl (digits_spec hst fr (by omega) (by omega)) ?_
  rintro e w ⟨rfl, hstn⟩
  clear hst
  have hst := hstn
  clear hstn
  refine ⟨_, rfl, ?_⟩
  refine RW.op1 rfl (runs_addS rfl rfl (by simp only [ByteArray.size_append, strOfZ, show (ByteArray.mk #[98, 121, 116, 101, 115, 32]).size = 6 from rfl, show (ByteArray.mk #[45]).size = 1 from rfl, show (ByteArray.mk #[47]).size = 1 from rfl]; omega)) ?_
  refine RW.op1 rfl (runs_addS rfl rfl (by simp only [ByteArray.size_append, strOfZ, show (ByteArray.mk #[98, 121, 116, 101, 115, 32]).size = 6 from rfl, show (ByteArray.mk #[45]).size = 1 from rfl, show (ByteArray.mk #[47]).size = 1 from rfl]; omega)) ?_
  refine RW.op1 rfl (runs_move rfl) ?_
  refine RW.op1 rfl (runs_sub rfl rfl (by omega)) ?_
  refine RW.call rfl call13 rfl rfl (digits_spec hst (sz - 1) (by omega) (by omega)) ?_
  rintro e w ⟨rfl, hstn⟩
  clear hst
  have hst := hstn
  clear hstn
  refine ⟨_, rfl, ?_⟩
  refine RW.op1 rfl (runs_addS rfl rfl (by simp only [ByteArray.size_append, strOfZ, show (ByteArray.mk #[98, 121, 116, 101, 115, 32]).size = 6 from rfl, show (ByteArray.mk #[45]).size = 1 from rfl, show (ByteArray.mk #[47]).size = 1 from rfl]; omega)) ?_
  refine RW.op1 rfl (runs_addS rfl rfl (by simp only [ByteArray.size_append, strOfZ, show (ByteArray.mk #[98, 121, 116, 101, 115, 32]).size = 6 from rfl, show (ByteArray.mk #[45]).size = 1 from rfl, show (ByteArray.mk #[47]).size = 1 from rfl]; omega)) ?_
  refine RW.op1 rfl (runs_move rfl) ?_
  refine RW.call rfl call13 rfl rfl (digits_spec hst sz (by omega) (by omega)) ?_
  rintro e w ⟨rfl, hstn⟩
  clear hst
  have hst := hstn
  clear hstn
  refine ⟨_, rfl, ?_⟩
  refine RW.op1 rfl (runs_addS rfl rfl (by simp only [ByteArray.size_append, strOfZ, show (ByteArray.mk #[98, 121, 116, 101, 115, 32]).size = 6 from rfl, show (ByteArray.mk #[45]).size = 1 from rfl, show (ByteArray.mk #[47]).size = 1 from rfl]; omega)) ?_
  refine RW.op1 rfl (runs_buildF (cells := [_, _]) bz26 rfl rfl rfl rfl rfl) ?_
  refine RW.opE rfl (runs_litF (xs := [.agg #[_, _], .agg #[_, _]]) Tryd.underlying31 ti26 (by decide) rfl rfl rfl rfl rfl hst (by decide)) ?_
  rintro uH w ⟨LvH, hstn, hgH⟩
  clear hst
  have hst := hstn
  clear hstn
  replace hgH : Grow 26 2 uH 2 ((hds v1T (spanT fr (sz - 1) sz) none).flatMap hrow) LvH := hgH
  obtain ⟨gH, cH, hcurH, rfl, rfl, _⟩ := Grow.shape hgH (by decide)
  refine RW.op1 rfl (runs_move rfl) ?_
  refine RW.op1 rfl (runs_move rfl) ?_
  refine RW.op1 rfl (runs_sub rfl rfl (by omega)) ?_
  refine RW.call rfl call21 rfl rfl (bytes_spec hst 65 (sz - fr) (by unfold i64ok; decide) (by omega)) ?_
  rintro e w ⟨IB, vB, hIB, rfl, hstn, hB⟩
  clear hst
  have hst := hstn
  clear hstn
  replace hT := hT.mono hIB
  replace hle := hle.trans hIB
  refine ⟨_, rfl, ?_⟩
  refine RW.op1 rfl (RdB.string Tryd.underlying49 Tryd.underlying5 Tryd.underlying9 rfl hB hst) ?_
  obtain ⟨body, hbody⟩ : ∃ body, strOf (bytesOf 65 (sz - fr)) = body := ⟨_, rfl⟩
  rw [hbody]
  have hbz : (body.size : Int) = sz - fr := by rw [← hbody, strOfZ, bytesOf_len]; omega
  clear hbody hB
  refine RW.op1 rfl (runs_buildF (cells := [_, _, _, _]) bz45 rfl rfl rfl rfl rfl) ?_
  refine RW.opE rfl (runs_alloc ti45 hst) ?_
  rintro _ w ⟨b8, rfl, hstn⟩
  clear hst
  have hst := hstn
  clear hstn
  refine RW.opE0 (runs_storeW ti45 rfl rfl hst (k := 0) rfl rfl rfl (NoFz.zero _) (all4 _ _ hgH.one)) ?_
  rintro w hstn
  clear hst
  have hst := hstn
  clear hstn
  try simp only [List.set_cons_zero, List.set_cons_succ] at hst
  refine RW.done ?_
  refine AQ.next ?_
  refine CW.seq ?_
  -- region 4
  refine CW.region ?_
  first
    | refine RW.op1 rfl (runs_loadN (vs := [_, _, _, _]) ag45 ti45 rfl hst (k := 0) rfl rfl rfl) ?_
    | refine RW.op1 rfl (runs_loadN (vs := [_, _, _, _]) ag45 ti45 rfl hst (k := 1) rfl rfl rfl) ?_
    | refine RW.op1 rfl (runs_loadN (vs := [_, _, _, _]) ag45 ti45 rfl hst (k := 2) rfl rfl rfl) ?_
  refine RW.op1 rfl (runs_move rfl) ?_
  refine RW.call rfl call17 rfl rfl (fits_own hst (hs := hds v1T (spanT fr (sz - 1) sz) none) hgH rfl 206 false body (hds_sm _ _ _ (by decide) (spanT_size _ _ _ (by omega) (by omega) (by omega) (by omega)) (fun l hl => by cases hl)) fr v1T) ?_
  rintro e w ⟨I4, hI4, rfl, hstn⟩
  clear hst
  have hst := hstn
  clear hstn
  have hF1 := hds_fit hwf hxf (by omega) body hbz none (.inl rfl)
  rw [Option.map_none] at hF1
  rw [hF1]
  replace hT := hT.mono hI4
  replace hle := hle.trans hI4
  refine ⟨_, rfl, ?_⟩
  refine RW.op1 rfl (runs_move rfl) ?_
  refine RW.op1 rfl (runs_extract rfl rfl) ?_
  refine RW.op1 rfl (runs_extract rfl rfl) ?_
  refine RW.op1 rfl (runs_assign rfl) ?_
  refine RW.op1 rfl (runs_assign rfl) ?_
  refine RW.done ?_
  refine AQ.next ?_
  refine CW.seq ?_
  refine CW.seq ?_
  -- region 5
  refine CW.region ?_
  refine RW.op1 rfl (runs_move rfl) ?_
  refine RW.op1 rfl (runs_not rfl) ?_
  refine RW.op1 rfl (runs_move rfl) ?_
  have hk55 := (show (!true) = false from rfl)
  refine RW.on_guard rfl rfl rfl rfl hk55 ?_
  refine RW.op1 rfl (runs_move rfl) ?_
  refine RW.on_guard rfl rfl rfl rfl hk55 ?_
  refine RW.op1 rfl (runs_move rfl) ?_
  refine RW.on_guard rfl rfl rfl rfl hk55 ?_
  refine RW.op1 rfl (runs_neI rfl rfl) ?_
  refine RW.op1 rfl (runs_pick_false rfl hk55 rfl) ?_
  refine RW.done ?_
  refine AQ.next ?_
  refine CW.cond rfl (fun hc => absurd hc (by simp)) (fun hc => ?_)
  refine CW.skip ?_
  refine AQ.next ?_
  refine CW.seq ?_
  -- region 7
  refine CW.cut (Imm × Value × Own) (fun x w => I.le x.1 ∧ TabK x.1 ∧ St w0 w x.1 ((b8, Obj.cells (Value.agg #[.int .i64 (206), x.2.1, .string body, .bool false]).cells 45) :: (x.2.2 ++ L)) ∧ Grow 26 2 x.2.1 3 ((hds v1T (spanT fr (sz - 1) sz) (some (strOf (Lib.decDigits (sz - fr).toNat)))).flatMap hrow) x.2.2) (fun _ => [(0, .int .i64 sz), (1, .int .i64 fr), (2, .int .i64 o0), (3, .int .i64 h0), (9, .pointer (some ⟨b8, 0, none⟩))]) ?_ ?_
  · -- region 7
    refine CW.draw (FSt w0 I4 L) (.q 0 (.q 2 (.q 3 (.q 4 (.fork (.l 1 (.l 5 (.q 6 (.l 7 (.l 8 (.q 9 (.l 10 .nil))))))) (.l 5 (.q 6 (.fork (.l 1 (.l 7 (.l 8 (.q 9 (.l 10 .nil))))) (.l 7 (.l 1 (.l 8 (.q 9 (.l 10 .nil))))))))))))) follows (by kernel_rfl) ⟨_, Imm.le.refl _, hst.draw.sub ((List.sublist_append_right _ _).trans (List.sublist_cons_self _ _))⟩ ?_
    replace hst := hst.draw
    first
      | refine DRW.q rfl rfl (fun w' hF => runs_fieldAddr0 rfl Tryd.underlying45 rfl ti31 (by decide)) ?_
      | refine DRW.q rfl rfl (fun w' hF => runs_fieldAddr rfl Tryd.underlying45 rfl ti31 (by decide)) ?_
    refine DRW.q rfl rfl (fun w' hF => runs_move rfl) ?_
    refine DRW.q rfl rfl (fun w' hF => runs_move rfl) ?_
    refine DRW.q rfl rfl (fun w' hF => runs_sub rfl rfl (by omega)) ?_
    refine DRW.fork ?_ ?_
    · first
        | refine DRW.op1 rfl rfl (runs_load1 sc31 rfl (hst.cell_own (k := 0) rfl rfl)) (FSt.of hst (Imm.le.refl _) (by first | exact (List.sublist_append_right _ _).trans (List.sublist_cons_self _ _) | exact ((List.sublist_append_right _ _).trans (List.sublist_cons_self _ _)).trans (List.sublist_append_right _ _))) ?_
        | refine DRW.op1 rfl rfl (runs_load1 sc31 rfl (hst.cell_own (k := 1) rfl rfl)) (FSt.of hst (Imm.le.refl _) (by first | exact (List.sublist_append_right _ _).trans (List.sublist_cons_self _ _) | exact ((List.sublist_append_right _ _).trans (List.sublist_cons_self _ _)).trans (List.sublist_append_right _ _))) ?_
        | refine DRW.op1 rfl rfl (runs_load1 sc31 rfl (hst.cell_own (k := 2) rfl rfl)) (FSt.of hst (Imm.le.refl _) (by first | exact (List.sublist_append_right _ _).trans (List.sublist_cons_self _ _) | exact ((List.sublist_append_right _ _).trans (List.sublist_cons_self _ _)).trans (List.sublist_append_right _ _))) ?_
      refine DRW.call rfl rfl call13 rfl rfl (digits_spec hst (sz - fr) (by omega) (by omega)) ?_
      rintro e w ⟨rfl, hstn⟩
      clear hst
      have hst := hstn
      clear hstn
      refine ⟨_, rfl, FSt.of hst (Imm.le.refl _) (by first | exact (List.sublist_append_right _ _).trans (List.sublist_cons_self _ _) | exact ((List.sublist_append_right _ _).trans (List.sublist_cons_self _ _)).trans (List.sublist_append_right _ _)), ?_⟩
      refine DRW.q rfl rfl (fun w' hF => runs_buildF (cells := [_, _]) bz26 rfl rfl rfl rfl rfl) ?_
      refine DRW.opE rfl rfl (runs_litF (xs := [.agg #[_, _]]) Tryd.underlying31 ti26 (by decide) rfl rfl rfl rfl rfl hst (by decide)) ?_
      rintro u12 w ⟨Lv12, hstn, hg12⟩
      clear hst
      have hst := hstn
      clear hstn
      refine ⟨FSt.of hst (Imm.le.refl _) (by first | exact (List.sublist_append_right _ _).trans (List.sublist_cons_self _ _) | exact ((List.sublist_append_right _ _).trans (List.sublist_cons_self _ _)).trans (List.sublist_append_right _ _)), ?_⟩
      obtain ⟨J12, hJ12, hstn, h12⟩ := Grow.freeze hg12 hst
      clear hst
      have hst := hstn
      clear hstn
      replace hT := hT.mono hJ12
      replace hle := hle.trans hJ12
      try simp only [List.nil_append] at h12
      replace h12 : RdL _ 2 u12 1 (hrow (clenS, (strOf (Lib.decDigits (sz - fr).toNat)))) := h12
      have hL3 := h12
      refine DRW.opE rfl rfl (runs_appendRA [_] Tryd.underlying31 ti26 rfl (by decide) rfl rfl hst hgH hL3 (by decide) (by decide)) ?_
      rintro uG w ⟨LvG, hstn, hgG⟩
      clear hst
      have hst := hstn
      clear hstn
      refine ⟨FSt.of hst hJ12 (by first | exact (List.sublist_append_right _ _).trans (List.sublist_cons_self _ _) | exact ((List.sublist_append_right _ _).trans (List.sublist_cons_self _ _)).trans (List.sublist_append_right _ _)), ?_⟩
      replace hgG : Grow 26 2 uG 3 ((hds v1T (spanT fr (sz - 1) sz) (some (strOf (Lib.decDigits (sz - fr).toNat)))).flatMap hrow) LvG := hgG
      replace hst : St w0 _ _ ((b8, Obj.cells (Value.agg #[.int .i64 (206), (.slice (some ⟨gH, 0, none⟩) 2 cH), .string body, .bool false]).cells 45) :: (LvG ++ L)) := hst
      first
        | refine DRW.q rfl rfl (fun w' hF => runs_fieldAddr0 rfl Tryd.underlying45 rfl ti31 (by decide)) ?_
        | refine DRW.q rfl rfl (fun w' hF => runs_fieldAddr rfl Tryd.underlying45 rfl ti31 (by decide)) ?_
      refine DRW.opE0 rfl (runs_store1P ti31 rfl rfl hst (k := 0) rfl rfl (NoFz.zero _) hgG.one) ?_
      rintro w hstn
      clear hst
      have hst := hstn
      clear hstn
      try simp only [List.set_cons_zero, List.set_cons_succ] at hst
      refine ⟨FSt.of hst hJ12 (by first | exact (List.sublist_append_right _ _).trans (List.sublist_cons_self _ _) | exact ((List.sublist_append_right _ _).trans (List.sublist_cons_self _ _)).trans (List.sublist_append_right _ _)), ?_⟩
      refine DRW.done ?_
      exact AQ.meet (_, _, _) ⟨hle, hT, hst, hgG⟩ ⟨rfl, rfl, rfl, rfl, rfl, trivial⟩
    refine DRW.call rfl rfl call13 rfl rfl (digits_spec hst (sz - fr) (by omega) (by omega)) ?_
    rintro e w ⟨rfl, hstn⟩
    clear hst
    have hst := hstn
    clear hstn
    refine ⟨_, rfl, FSt.of hst (Imm.le.refl _) (by first | exact (List.sublist_append_right _ _).trans (List.sublist_cons_self _ _) | exact ((List.sublist_append_right _ _).trans (List.sublist_cons_self _ _)).trans (List.sublist_append_right _ _)), ?_⟩
    refine DRW.q rfl rfl (fun w' hF => runs_buildF (cells := [_, _]) bz26 rfl rfl rfl rfl rfl) ?_
    refine DRW.fork ?_ ?_
    · first
        | refine DRW.op1 rfl rfl (runs_load1 sc31 rfl (hst.cell_own (k := 0) rfl rfl)) (FSt.of hst (Imm.le.refl _) (by first | exact (List.sublist_append_right _ _).trans (List.sublist_cons_self _ _) | exact ((List.sublist_append_right _ _).trans (List.sublist_cons_self _ _)).trans (List.sublist_append_right _ _))) ?_
        | refine DRW.op1 rfl rfl (runs_load1 sc31 rfl (hst.cell_own (k := 1) rfl rfl)) (FSt.of hst (Imm.le.refl _) (by first | exact (List.sublist_append_right _ _).trans (List.sublist_cons_self _ _) | exact ((List.sublist_append_right _ _).trans (List.sublist_cons_self _ _)).trans (List.sublist_append_right _ _))) ?_
        | refine DRW.op1 rfl rfl (runs_load1 sc31 rfl (hst.cell_own (k := 2) rfl rfl)) (FSt.of hst (Imm.le.refl _) (by first | exact (List.sublist_append_right _ _).trans (List.sublist_cons_self _ _) | exact ((List.sublist_append_right _ _).trans (List.sublist_cons_self _ _)).trans (List.sublist_append_right _ _))) ?_
      refine DRW.opE rfl rfl (runs_litF (xs := [.agg #[_, _]]) Tryd.underlying31 ti26 (by decide) rfl rfl rfl rfl rfl hst (by decide)) ?_
      rintro u16 w ⟨Lv16, hstn, hg16⟩
      clear hst
      have hst := hstn
      clear hstn
      refine ⟨FSt.of hst (Imm.le.refl _) (by first | exact (List.sublist_append_right _ _).trans (List.sublist_cons_self _ _) | exact ((List.sublist_append_right _ _).trans (List.sublist_cons_self _ _)).trans (List.sublist_append_right _ _)), ?_⟩
      obtain ⟨J16, hJ16, hstn, h16⟩ := Grow.freeze hg16 hst
      clear hst
      have hst := hstn
      clear hstn
      replace hT := hT.mono hJ16
      replace hle := hle.trans hJ16
      try simp only [List.nil_append] at h16
      replace h16 : RdL _ 2 u16 1 (hrow (clenS, (strOf (Lib.decDigits (sz - fr).toNat)))) := h16
      have hL3 := h16
      refine DRW.opE rfl rfl (runs_appendRA [_] Tryd.underlying31 ti26 rfl (by decide) rfl rfl hst hgH hL3 (by decide) (by decide)) ?_
      rintro uG w ⟨LvG, hstn, hgG⟩
      clear hst
      have hst := hstn
      clear hstn
      refine ⟨FSt.of hst hJ16 (by first | exact (List.sublist_append_right _ _).trans (List.sublist_cons_self _ _) | exact ((List.sublist_append_right _ _).trans (List.sublist_cons_self _ _)).trans (List.sublist_append_right _ _)), ?_⟩
      replace hgG : Grow 26 2 uG 3 ((hds v1T (spanT fr (sz - 1) sz) (some (strOf (Lib.decDigits (sz - fr).toNat)))).flatMap hrow) LvG := hgG
      replace hst : St w0 _ _ ((b8, Obj.cells (Value.agg #[.int .i64 (206), (.slice (some ⟨gH, 0, none⟩) 2 cH), .string body, .bool false]).cells 45) :: (LvG ++ L)) := hst
      first
        | refine DRW.q rfl rfl (fun w' hF => runs_fieldAddr0 rfl Tryd.underlying45 rfl ti31 (by decide)) ?_
        | refine DRW.q rfl rfl (fun w' hF => runs_fieldAddr rfl Tryd.underlying45 rfl ti31 (by decide)) ?_
      refine DRW.opE0 rfl (runs_store1P ti31 rfl rfl hst (k := 0) rfl rfl (NoFz.zero _) hgG.one) ?_
      rintro w hstn
      clear hst
      have hst := hstn
      clear hstn
      try simp only [List.set_cons_zero, List.set_cons_succ] at hst
      refine ⟨FSt.of hst hJ16 (by first | exact (List.sublist_append_right _ _).trans (List.sublist_cons_self _ _) | exact ((List.sublist_append_right _ _).trans (List.sublist_cons_self _ _)).trans (List.sublist_append_right _ _)), ?_⟩
      refine DRW.done ?_
      exact AQ.meet (_, _, _) ⟨hle, hT, hst, hgG⟩ ⟨rfl, rfl, rfl, rfl, rfl, trivial⟩
    refine DRW.opE rfl rfl (runs_litF (xs := [.agg #[_, _]]) Tryd.underlying31 ti26 (by decide) rfl rfl rfl rfl rfl hst (by decide)) ?_
    rintro u19 w ⟨Lv19, hstn, hg19⟩
    clear hst
    have hst := hstn
    clear hstn
    refine ⟨FSt.of hst (Imm.le.refl _) (by first | exact (List.sublist_append_right _ _).trans (List.sublist_cons_self _ _) | exact ((List.sublist_append_right _ _).trans (List.sublist_cons_self _ _)).trans (List.sublist_append_right _ _)), ?_⟩
    obtain ⟨J19, hJ19, hstn, h19⟩ := Grow.freeze hg19 hst
    clear hst
    have hst := hstn
    clear hstn
    replace hT := hT.mono hJ19
    replace hle := hle.trans hJ19
    try simp only [List.nil_append] at h19
    replace h19 : RdL _ 2 u19 1 (hrow (clenS, (strOf (Lib.decDigits (sz - fr).toNat)))) := h19
    have hL3 := h19
    first
      | refine DRW.op1 rfl rfl (runs_load1 sc31 rfl (hst.cell_own (k := 0) rfl rfl)) (FSt.of hst hJ19 (by first | exact (List.sublist_append_right _ _).trans (List.sublist_cons_self _ _) | exact ((List.sublist_append_right _ _).trans (List.sublist_cons_self _ _)).trans (List.sublist_append_right _ _))) ?_
      | refine DRW.op1 rfl rfl (runs_load1 sc31 rfl (hst.cell_own (k := 1) rfl rfl)) (FSt.of hst hJ19 (by first | exact (List.sublist_append_right _ _).trans (List.sublist_cons_self _ _) | exact ((List.sublist_append_right _ _).trans (List.sublist_cons_self _ _)).trans (List.sublist_append_right _ _))) ?_
      | refine DRW.op1 rfl rfl (runs_load1 sc31 rfl (hst.cell_own (k := 2) rfl rfl)) (FSt.of hst hJ19 (by first | exact (List.sublist_append_right _ _).trans (List.sublist_cons_self _ _) | exact ((List.sublist_append_right _ _).trans (List.sublist_cons_self _ _)).trans (List.sublist_append_right _ _))) ?_
    refine DRW.opE rfl rfl (runs_appendRA [_] Tryd.underlying31 ti26 rfl (by decide) rfl rfl hst hgH hL3 (by decide) (by decide)) ?_
    rintro uG w ⟨LvG, hstn, hgG⟩
    clear hst
    have hst := hstn
    clear hstn
    refine ⟨FSt.of hst hJ19 (by first | exact (List.sublist_append_right _ _).trans (List.sublist_cons_self _ _) | exact ((List.sublist_append_right _ _).trans (List.sublist_cons_self _ _)).trans (List.sublist_append_right _ _)), ?_⟩
    replace hgG : Grow 26 2 uG 3 ((hds v1T (spanT fr (sz - 1) sz) (some (strOf (Lib.decDigits (sz - fr).toNat)))).flatMap hrow) LvG := hgG
    replace hst : St w0 _ _ ((b8, Obj.cells (Value.agg #[.int .i64 (206), (.slice (some ⟨gH, 0, none⟩) 2 cH), .string body, .bool false]).cells 45) :: (LvG ++ L)) := hst
    first
      | refine DRW.q rfl rfl (fun w' hF => runs_fieldAddr0 rfl Tryd.underlying45 rfl ti31 (by decide)) ?_
      | refine DRW.q rfl rfl (fun w' hF => runs_fieldAddr rfl Tryd.underlying45 rfl ti31 (by decide)) ?_
    refine DRW.opE0 rfl (runs_store1P ti31 rfl rfl hst (k := 0) rfl rfl (NoFz.zero _) hgG.one) ?_
    rintro w hstn
    clear hst
    have hst := hstn
    clear hstn
    try simp only [List.set_cons_zero, List.set_cons_succ] at hst
    refine ⟨FSt.of hst hJ19 (by first | exact (List.sublist_append_right _ _).trans (List.sublist_cons_self _ _) | exact ((List.sublist_append_right _ _).trans (List.sublist_cons_self _ _)).trans (List.sublist_append_right _ _)), ?_⟩
    refine DRW.done ?_
    exact AQ.meet (_, _, _) ⟨hle, hT, hst, hgG⟩ ⟨rfl, rfl, rfl, rfl, rfl, trivial⟩
  · clear hle hT hgH
    rintro ⟨IK, uG, LvG⟩ w ⟨hle, hT, hstn, hgG⟩
    dsimp only at hle hT hstn hgG ⊢
    clear hst
    have hst := hstn
    clear hstn
    refine AQ.next ?_
    refine CW.seq ?_
    refine CW.seq ?_
    -- region 8
    refine CW.region ?_
    first
      | refine RW.op1 rfl (runs_loadN (vs := [_, _, _, _]) ag45 ti45 rfl hst (k := 0) rfl rfl rfl) ?_
      | refine RW.op1 rfl (runs_loadN (vs := [_, _, _, _]) ag45 ti45 rfl hst (k := 1) rfl rfl rfl) ?_
      | refine RW.op1 rfl (runs_loadN (vs := [_, _, _, _]) ag45 ti45 rfl hst (k := 2) rfl rfl rfl) ?_
    refine RW.op1 rfl (runs_move rfl) ?_
    refine RW.call rfl call17 rfl rfl (fits_own hst (hs := (hds v1T (spanT fr (sz - 1) sz) (some (strOf (Lib.decDigits (sz - fr).toNat))))) hgG rfl 206 false body (hds_sm _ _ _ (by decide) (spanT_size _ _ _ (by omega) (by omega) (by omega) (by omega)) (fun l hl => by cases hl; exact dd_size _ (by omega))) fr v1T) ?_
    rintro e w ⟨I5, hI5, rfl, hstn⟩
    clear hst
    have hst := hstn
    clear hstn
    have hF2 := hds_fit hwf hxf (by omega) body hbz (some (sz - fr).toNat) (.inr rfl)
    rw [Option.map_some] at hF2
    rw [hF2]
    replace hT := hT.mono hI5
    replace hle := hle.trans hI5
    refine ⟨_, rfl, ?_⟩
    refine RW.op1 rfl (runs_move rfl) ?_
    refine RW.op1 rfl (runs_extract rfl rfl) ?_
    refine RW.op1 rfl (runs_extract rfl rfl) ?_
    refine RW.op1 rfl (runs_assign rfl) ?_
    refine RW.op1 rfl (runs_assign rfl) ?_
    refine RW.done ?_
    refine AQ.next ?_
    refine CW.seq ?_
    -- region 9
    refine CW.region ?_
    refine RW.op1 rfl (runs_move rfl) ?_
    refine RW.op1 rfl (runs_not rfl) ?_
    refine RW.op1 rfl (runs_move rfl) ?_
    have hk78 := (show (!true) = false from rfl)
    refine RW.on_guard rfl rfl rfl rfl hk78 ?_
    refine RW.op1 rfl (runs_move rfl) ?_
    refine RW.on_guard rfl rfl rfl rfl hk78 ?_
    refine RW.op1 rfl (runs_move rfl) ?_
    refine RW.on_guard rfl rfl rfl rfl hk78 ?_
    refine RW.op1 rfl (runs_neI rfl rfl) ?_
    refine RW.op1 rfl (runs_pick_false rfl hk78 rfl) ?_
    refine RW.done ?_
    refine AQ.next ?_
    refine CW.cond rfl (fun hc => absurd hc (by simp)) (fun hc => ?_)
    refine CW.skip ?_
    refine AQ.next ?_
    refine CW.seq ?_
    -- region 11
    refine CW.region ?_
    refine RW.op1 rfl (runs_move rfl) ?_
    refine RW.call rfl call9 rfl rfl (within_spec hst (v := o0) (n := 30) (ho0) (by unfold i64ok; decide)) ?_
    rintro e w ⟨rfl, hstn⟩
    clear hst
    have hst := hstn
    clear hstn
    have hwy := (within_range (o0) 30).1
    have hxy := (within_range (o0) 30).2 (by decide)
    generalize within (o0) 30 = y at hwy hxy ⊢
    refine ⟨_, rfl, ?_⟩
    refine RW.op1 rfl (runs_add rfl rfl (by omega)) ?_
    refine RW.op1 rfl (runs_assign rfl) ?_
    obtain ⟨off, hoff⟩ : ∃ off, 1 + y = off := ⟨_, rfl⟩
    rw [hoff]
    have le := digits_len 7 (sz + off).toNat (by omega)
    have lf := digits_len 7 (sz - fr + off).toNat (by omega)
    refine RW.done ?_
    refine AQ.next ?_
    refine CW.seq ?_
    -- region 12
    refine CW.region ?_
    first
      | refine RW.op1 rfl (runs_loadN (vs := [_, _, _, _]) ag45 ti45 rfl hst (k := 0) rfl rfl rfl) ?_
      | refine RW.op1 rfl (runs_loadN (vs := [_, _, _, _]) ag45 ti45 rfl hst (k := 1) rfl rfl rfl) ?_
      | refine RW.op1 rfl (runs_loadN (vs := [_, _, _, _]) ag45 ti45 rfl hst (k := 2) rfl rfl rfl) ?_
    refine RW.op1 rfl (runs_move rfl) ?_
    refine RW.op1 rfl (runs_move rfl) ?_
    refine RW.op1 rfl (runs_add rfl rfl (by omega)) ?_
    refine RW.call rfl call17 rfl rfl (fits_own hst (hs := (hds v1T (spanT fr (sz - 1) sz) (some (strOf (Lib.decDigits (sz - fr).toNat))))) hgG rfl 206 false body (hds_sm _ _ _ (by decide) (spanT_size _ _ _ (by omega) (by omega) (by omega) (by omega)) (fun l hl => by cases hl; exact dd_size _ (by omega))) (fr + off) v1T) ?_
    rintro e w ⟨I6, hI6, rfl, hstn⟩
    clear hst
    have hst := hstn
    clear hstn
    rw [hds_got hwf hxf (by omega) (by omega)]
    replace hT := hT.mono hI6
    replace hle := hle.trans hI6
    refine ⟨_, rfl, ?_⟩
    refine RW.op1 rfl (runs_move rfl) ?_
    refine RW.op1 rfl (runs_extract rfl rfl) ?_
    refine RW.op1 rfl (runs_extract rfl rfl) ?_
    refine RW.op1 rfl (runs_assign rfl) ?_
    refine RW.op1 rfl (runs_assign rfl) ?_
    refine RW.done ?_
    refine AQ.next ?_
    refine CW.seq ?_
    -- region 13
    refine CW.region ?_
    first
      | refine RW.op1 rfl (runs_loadN (vs := [_, _, _, _]) ag45 ti45 rfl hst (k := 0) rfl rfl rfl) ?_
      | refine RW.op1 rfl (runs_loadN (vs := [_, _, _, _]) ag45 ti45 rfl hst (k := 1) rfl rfl rfl) ?_
      | refine RW.op1 rfl (runs_loadN (vs := [_, _, _, _]) ag45 ti45 rfl hst (k := 2) rfl rfl rfl) ?_
    refine RW.op1 rfl (runs_move rfl) ?_
    refine RW.call rfl call17 rfl rfl (fits_own hst (hs := (hds v1T (spanT fr (sz - 1) sz) (some (strOf (Lib.decDigits (sz - fr).toNat))))) hgG rfl 206 false body (hds_sm _ _ _ (by decide) (spanT_size _ _ _ (by omega) (by omega) (by omega) (by omega)) (fun l hl => by cases hl; exact dd_size _ (by omega))) fr v2T) ?_
    rintro e w ⟨I7, hI7, rfl, hstn⟩
    clear hst
    have hst := hstn
    clear hstn
    rw [hds_t2]
    replace hT := hT.mono hI7
    replace hle := hle.trans hI7
    refine ⟨_, rfl, ?_⟩
    refine RW.op1 rfl (runs_move rfl) ?_
    refine RW.op1 rfl (runs_extract rfl rfl) ?_
    refine RW.op1 rfl (runs_extract rfl rfl) ?_
    refine RW.op1 rfl (runs_assign rfl) ?_
    refine RW.op1 rfl (runs_assign rfl) ?_
    refine RW.done ?_
    refine AQ.next ?_
    refine CW.seq ?_
    -- region 14
    refine CW.region ?_
    first
      | refine RW.op1 rfl (runs_loadN (vs := [_, _, _, _]) ag45 ti45 rfl hst (k := 0) rfl rfl rfl) ?_
      | refine RW.op1 rfl (runs_loadN (vs := [_, _, _, _]) ag45 ti45 rfl hst (k := 1) rfl rfl rfl) ?_
      | refine RW.op1 rfl (runs_loadN (vs := [_, _, _, _]) ag45 ti45 rfl hst (k := 2) rfl rfl rfl) ?_
    refine RW.op1 rfl (runs_move rfl) ?_
    refine RW.call rfl call17 rfl rfl (fits_own hst (hs := (hds v1T (spanT fr (sz - 1) sz) (some (strOf (Lib.decDigits (sz - fr).toNat))))) hgG rfl 206 false body (hds_sm _ _ _ (by decide) (spanT_size _ _ _ (by omega) (by omega) (by omega) (by omega)) (fun l hl => by cases hl; exact dd_size _ (by omega))) fr ⟨#[]⟩) ?_
    rintro e w ⟨I8, hI8, rfl, hstn⟩
    clear hst
    have hst := hstn
    clear hstn
    rw [hds_t0]
    replace hT := hT.mono hI8
    replace hle := hle.trans hI8
    refine ⟨_, rfl, ?_⟩
    refine RW.op1 rfl (runs_move rfl) ?_
    refine RW.op1 rfl (runs_extract rfl rfl) ?_
    refine RW.op1 rfl (runs_extract rfl rfl) ?_
    refine RW.op1 rfl (runs_assign rfl) ?_
    refine RW.op1 rfl (runs_assign rfl) ?_
    refine RW.done ?_
    refine AQ.next ?_
    refine CW.seq ?_
    refine CW.seq ?_
    -- region 15
    refine CW.region ?_
    refine RW.op1 rfl (runs_move rfl) ?_
    refine RW.call rfl call9 rfl rfl (within_spec hst (v := h0) (n := 4) (hh0) (by unfold i64ok; decide)) ?_
    rintro e w ⟨rfl, hstn⟩
    clear hst
    have hst := hstn
    clear hstn
    have hwh := (within_range (h0) 4).1
    have hxh := (within_range (h0) 4).2 (by decide)
    generalize within (h0) 4 = how at hwh hxh ⊢
    refine ⟨_, rfl, ?_⟩
    obtain ⟨gh, hcap, hcur, rfl, rfl, hgc⟩ := Grow.shape hgG (by decide)
    have hG0 : Grow 26 2 (.slice (some ⟨gh, 0, none⟩) 3 hcap) 3 ((hds v1T (spanT fr (sz - 1) sz) (some (strOf (Lib.decDigits (sz - fr).toNat)))).flatMap hrow) [(gh, .cells hcur 26)] := hgG
    have hM0 : HSm (hds v1T (spanT fr (sz - 1) sz) (some (strOf (Lib.decDigits (sz - fr).toNat)))) := hds_sm _ _ _ (by decide) (spanT_size _ _ _ (by omega) (by omega) (by omega) (by omega)) (fun l hl => by cases hl; exact dd_size _ (by omega))
    have hN0 : fitsR 200 (hds v1T (spanT fr (sz - 1) sz) (some (strOf (Lib.decDigits (sz - fr).toNat)))) body fr v1T = (0, false) := hds_c _ _ _ _
    have hG1 : Grow 26 2 (.slice (some ⟨gh, 0, none⟩) 3 hcap) 3 ((hds v1T (spanT fr (sz - 1) (sz + off)) (some (strOf (Lib.decDigits (sz - fr).toNat)))).flatMap hrow) [(gh, .cells (hcur.setIfInBounds 3 (.string (spanT fr (sz - 1) (sz + off)))) 26)] := Grow.set1 hgG (i := 3) (by decide) (u := .string (spanT fr (sz - 1) (sz + off))) rfl
    have hM1 : HSm (hds v1T (spanT fr (sz - 1) (sz + off)) (some (strOf (Lib.decDigits (sz - fr).toNat)))) := hds_sm _ _ _ (by decide) (spanT_size _ _ _ (by omega) (by omega) (by omega) (by omega)) (fun l hl => by cases hl; exact dd_size _ (by omega))
    have hN1 : fitsR 206 (hds v1T (spanT fr (sz - 1) (sz + off)) (some (strOf (Lib.decDigits (sz - fr).toNat)))) body fr v1T = (0, false) := hds_tot hwf hxf (by omega) (by omega) (by omega) _ _ _ _ _
    have hG2 : Grow 26 2 (.slice (some ⟨gh, 0, none⟩) 3 hcap) 3 ((hds v1T (spanT fr (sz - 1) sz) (some (strOf (Lib.decDigits (sz - fr + off).toNat)))).flatMap hrow) [(gh, .cells (hcur.setIfInBounds 5 (.string (strOf (Lib.decDigits (sz - fr + off).toNat)))) 26)] := Grow.set1 hgG (i := 5) (by decide) (u := .string (strOf (Lib.decDigits (sz - fr + off).toNat))) rfl
    have hM2 : HSm (hds v1T (spanT fr (sz - 1) sz) (some (strOf (Lib.decDigits (sz - fr + off).toNat)))) := hds_sm _ _ _ (by decide) (spanT_size _ _ _ (by omega) (by omega) (by omega) (by omega)) (fun l hl => by cases hl; exact dd_size _ (by omega))
    have hN2 : fitsR 206 (hds v1T (spanT fr (sz - 1) sz) (some (strOf (Lib.decDigits (sz - fr + off).toNat)))) body fr v1T = (0, false) := hds_ln hwf hxf (by omega) (by omega) (by omega) _ _ _ _
    have hG3 : Grow 26 2 (.slice (some ⟨gh, 0, none⟩) 3 hcap) 3 ((hds wkT (spanT fr (sz - 1) sz) (some (strOf (Lib.decDigits (sz - fr).toNat)))).flatMap hrow) [(gh, .cells (hcur.setIfInBounds 1 (.string wkT)) 26)] := Grow.set1 hgG (i := 1) (by decide) (u := .string wkT) rfl
    have hM3 : HSm (hds wkT (spanT fr (sz - 1) sz) (some (strOf (Lib.decDigits (sz - fr).toNat)))) := hds_sm _ _ _ (by decide) (spanT_size _ _ _ (by omega) (by omega) (by omega) (by omega)) (fun l hl => by cases hl; exact dd_size _ (by omega))
    have hN3 : fitsR 206 (hds wkT (spanT fr (sz - 1) sz) (some (strOf (Lib.decDigits (sz - fr).toNat)))) body fr v1T = (0, false) := hds_w _ _ _ _ _
    refine RW.done ?_
    refine AQ.next ?_
    refine CW.block ?_
    refine CW.seq ?_
    -- region 17
    refine CW.region ?_
    refine RW.op1 rfl (runs_eqI rfl rfl) ?_
    refine RW.op1 rfl (runs_assign rfl) ?_
    refine RW.done ?_
    refine AQ.next ?_
    refine CW.cut (Int × Imm × Value × Own × List HRow) (fun x w => I.le x.2.1 ∧ TabK x.2.1 ∧ St w0 w x.2.1 ((b8, Obj.cells (Value.agg #[.int .i64 (x.1), x.2.2.1, .string body, .bool false]).cells 45) :: (x.2.2.2.1 ++ L)) ∧ Grow 26 2 x.2.2.1 x.2.2.2.2.length (x.2.2.2.2.flatMap hrow) x.2.2.2.1 ∧ HSm x.2.2.2.2 ∧ fitsR x.1 x.2.2.2.2 body fr v1T = (0, false)) (fun x => [(1, .int .i64 fr), (9, .pointer (some ⟨b8, 0, none⟩)), (13, .bool false), (15, .bool false), (17, .bool false)]) ?_ ?_
    · refine CW.cond rfl (fun hc112 => ?_) (fun hc112 => ?_)
      · have hcb112 := hc112
        try simp only [decide_eq_true_eq, decide_eq_false_iff_not] at hc112
        -- region 18
        refine CW.region ?_
        first
          | refine RW.op1 rfl (runs_fieldAddr0 rfl Tryd.underlying45 rfl ti3 (by decide)) ?_
          | refine RW.op1 rfl (runs_fieldAddr rfl Tryd.underlying45 rfl ti3 (by decide)) ?_
        first
          | refine RW.opE0 (runs_store1P ti3 rfl rfl hst (k := 0) rfl rfl (NoFz.zero _) rfl) ?_
          | refine RW.opE0 (runs_store1P ti3 rfl rfl hst (k := 1) rfl rfl (NoFz.zero _) rfl) ?_
          | refine RW.opE0 (runs_store1P ti3 rfl rfl hst (k := 2) rfl rfl (NoFz.zero _) rfl) ?_
        rintro w hstn
        clear hst
        have hst := hstn
        clear hstn
        try simp only [List.set_cons_zero, List.set_cons_succ] at hst
        refine RW.done ?_
        first
          | exact AQ.meet (200, I8, .slice (some ⟨gh, 0, none⟩) 3 hcap, [(gh, .cells hcur 26)], (hds v1T (spanT fr (sz - 1) sz) (some (strOf (Lib.decDigits (sz - fr).toNat))))) ⟨hle, hT, hst, hG0, hM0, hN0⟩ ⟨rfl, rfl, rfl, rfl, rfl, trivial⟩
          | exact AQ.meet (206, I8, .slice (some ⟨gh, 0, none⟩) 3 hcap, [(gh, .cells (hcur.setIfInBounds 3 (.string (spanT fr (sz - 1) (sz + off)))) 26)], (hds v1T (spanT fr (sz - 1) (sz + off)) (some (strOf (Lib.decDigits (sz - fr).toNat))))) ⟨hle, hT, hst, hG1, hM1, hN1⟩ ⟨rfl, rfl, rfl, rfl, rfl, trivial⟩
          | exact AQ.meet (206, I8, .slice (some ⟨gh, 0, none⟩) 3 hcap, [(gh, .cells (hcur.setIfInBounds 5 (.string (strOf (Lib.decDigits (sz - fr + off).toNat)))) 26)], (hds v1T (spanT fr (sz - 1) sz) (some (strOf (Lib.decDigits (sz - fr + off).toNat))))) ⟨hle, hT, hst, hG2, hM2, hN2⟩ ⟨rfl, rfl, rfl, rfl, rfl, trivial⟩
          | exact AQ.meet (206, I8, .slice (some ⟨gh, 0, none⟩) 3 hcap, [(gh, .cells (hcur.setIfInBounds 1 (.string wkT)) 26)], (hds wkT (spanT fr (sz - 1) sz) (some (strOf (Lib.decDigits (sz - fr).toNat))))) ⟨hle, hT, hst, hG3, hM3, hN3⟩ ⟨rfl, rfl, rfl, rfl, rfl, trivial⟩
      · have hcb112 := hc112
        try simp only [decide_eq_true_eq, decide_eq_false_iff_not] at hc112
        refine CW.seq ?_
        -- region 19
        refine CW.region ?_
        refine RW.op1 rfl (runs_eqI rfl rfl) ?_
        refine RW.op1 rfl (runs_assign rfl) ?_
        refine RW.done ?_
        refine AQ.next ?_
        refine CW.cond rfl (fun hc115 => ?_) (fun hc115 => ?_)
        · have hcb115 := hc115
          try simp only [decide_eq_true_eq, decide_eq_false_iff_not] at hc115
          -- region 20
          refine CW.draw (FSt w0 I8 ((b8, Obj.cells (Value.agg #[.int .i64 (206), (.slice (some ⟨gh, 0, none⟩) 3 hcap), .string body, .bool false]).cells 45) :: L)) (.q 0 (.q 1 (.q 2 (.q 6 (.q 7 (.q 11 (.q 12 (.q 13 (.l 3 (.q 4 (.q 5 (.l 8 (.q 9 (.q 10 (.l 14 (.q 15 (.q 16 (.q 17 (.l 18 .nil))))))))))))))))))) follows (by kernel_rfl) ⟨_, Imm.le.refl _, hst.draw.sub ((List.sublist_append_right _ _).cons_cons _)⟩ ?_
          replace hst := hst.draw
          first
            | refine DRW.q rfl rfl (fun w' hF => runs_fieldAddr0 rfl Tryd.underlying45 rfl ti31 (by decide)) ?_
            | refine DRW.q rfl rfl (fun w' hF => runs_fieldAddr rfl Tryd.underlying45 rfl ti31 (by decide)) ?_
          first
            | refine DRW.q rfl rfl (FSt.load1_own sc31 rfl (k := 0) rfl rfl) ?_
            | refine DRW.q rfl rfl (FSt.load1_own sc31 rfl (k := 1) rfl rfl) ?_
            | refine DRW.q rfl rfl (FSt.load1_own sc31 rfl (k := 2) rfl rfl) ?_
          refine DRW.q rfl rfl (fun w' hF => runs_move rfl) ?_
          refine DRW.q rfl rfl (fun w' hF => runs_move rfl) ?_
          refine DRW.q rfl rfl (fun w' hF => runs_sub rfl rfl (by omega)) ?_
          refine DRW.q rfl rfl (fun w' hF => runs_move rfl) ?_
          refine DRW.q rfl rfl (fun w' hF => runs_move rfl) ?_
          refine DRW.q rfl rfl (fun w' hF => runs_add rfl rfl (by omega)) ?_
          refine DRW.call rfl rfl call13 rfl rfl (digits_spec hst fr (by omega) (by omega)) ?_
          rintro e w ⟨rfl, hstn⟩
          clear hst
          have hst := hstn
          clear hstn
          refine ⟨_, rfl, FSt.of hst (Imm.le.refl _) (by first | exact ((List.sublist_append_right _ _).cons_cons _) | exact ((List.sublist_cons_self _ _).cons_cons _)), ?_⟩
          refine DRW.q rfl rfl (fun w' hF => runs_addS rfl rfl (by simp only [ByteArray.size_append, strOfZ, show (ByteArray.mk #[98, 121, 116, 101, 115, 32]).size = 6 from rfl, show (ByteArray.mk #[45]).size = 1 from rfl, show (ByteArray.mk #[47]).size = 1 from rfl]; omega)) ?_
          refine DRW.q rfl rfl (fun w' hF => runs_addS rfl rfl (by simp only [ByteArray.size_append, strOfZ, show (ByteArray.mk #[98, 121, 116, 101, 115, 32]).size = 6 from rfl, show (ByteArray.mk #[45]).size = 1 from rfl, show (ByteArray.mk #[47]).size = 1 from rfl]; omega)) ?_
          refine DRW.call rfl rfl call13 rfl rfl (digits_spec hst (sz - 1) (by omega) (by omega)) ?_
          rintro e w ⟨rfl, hstn⟩
          clear hst
          have hst := hstn
          clear hstn
          refine ⟨_, rfl, FSt.of hst (Imm.le.refl _) (by first | exact ((List.sublist_append_right _ _).cons_cons _) | exact ((List.sublist_cons_self _ _).cons_cons _)), ?_⟩
          refine DRW.q rfl rfl (fun w' hF => runs_addS rfl rfl (by simp only [ByteArray.size_append, strOfZ, show (ByteArray.mk #[98, 121, 116, 101, 115, 32]).size = 6 from rfl, show (ByteArray.mk #[45]).size = 1 from rfl, show (ByteArray.mk #[47]).size = 1 from rfl]; omega)) ?_
          refine DRW.q rfl rfl (fun w' hF => runs_addS rfl rfl (by simp only [ByteArray.size_append, strOfZ, show (ByteArray.mk #[98, 121, 116, 101, 115, 32]).size = 6 from rfl, show (ByteArray.mk #[45]).size = 1 from rfl, show (ByteArray.mk #[47]).size = 1 from rfl]; omega)) ?_
          refine DRW.call rfl rfl call13 rfl rfl (digits_spec hst (sz + off) (by omega) (by omega)) ?_
          rintro e w ⟨rfl, hstn⟩
          clear hst
          have hst := hstn
          clear hstn
          refine ⟨_, rfl, FSt.of hst (Imm.le.refl _) (by first | exact ((List.sublist_append_right _ _).cons_cons _) | exact ((List.sublist_cons_self _ _).cons_cons _)), ?_⟩
          refine DRW.q rfl rfl (fun w' hF => runs_addS rfl rfl (by simp only [ByteArray.size_append, strOfZ, show (ByteArray.mk #[98, 121, 116, 101, 115, 32]).size = 6 from rfl, show (ByteArray.mk #[45]).size = 1 from rfl, show (ByteArray.mk #[47]).size = 1 from rfl]; omega)) ?_
          refine DRW.q rfl rfl (fun w' hF => runs_indexAddr0 Tryd.underlying31 ti26 rfl rfl (by decide)) ?_
          first
            | refine DRW.q rfl rfl (fun w' hF => runs_fieldAddr0 rfl Tryd.underlying26 rfl ti9 (by decide)) ?_
            | refine DRW.q rfl rfl (fun w' hF => runs_fieldAddr rfl Tryd.underlying26 rfl ti9 (by decide)) ?_
          refine DRW.opE0 rfl (runs_store1' ti9 rfl rfl hst (k := 1) rfl (by show 3 < hcur.size; omega) (NoFz.zero _) rfl) ?_
          rintro w hstn
          clear hst
          have hst := hstn
          clear hstn
          try simp only [List.set_cons_zero, List.set_cons_succ] at hst
          refine ⟨FSt.of hst (Imm.le.refl _) (by first | exact ((List.sublist_append_right _ _).cons_cons _) | exact ((List.sublist_cons_self _ _).cons_cons _)), ?_⟩
          refine DRW.done ?_
          first
            | exact AQ.meet (200, I8, .slice (some ⟨gh, 0, none⟩) 3 hcap, [(gh, .cells hcur 26)], (hds v1T (spanT fr (sz - 1) sz) (some (strOf (Lib.decDigits (sz - fr).toNat))))) ⟨hle, hT, hst, hG0, hM0, hN0⟩ ⟨rfl, rfl, rfl, rfl, rfl, trivial⟩
            | exact AQ.meet (206, I8, .slice (some ⟨gh, 0, none⟩) 3 hcap, [(gh, .cells (hcur.setIfInBounds 3 (.string (spanT fr (sz - 1) (sz + off)))) 26)], (hds v1T (spanT fr (sz - 1) (sz + off)) (some (strOf (Lib.decDigits (sz - fr).toNat))))) ⟨hle, hT, hst, hG1, hM1, hN1⟩ ⟨rfl, rfl, rfl, rfl, rfl, trivial⟩
            | exact AQ.meet (206, I8, .slice (some ⟨gh, 0, none⟩) 3 hcap, [(gh, .cells (hcur.setIfInBounds 5 (.string (strOf (Lib.decDigits (sz - fr + off).toNat)))) 26)], (hds v1T (spanT fr (sz - 1) sz) (some (strOf (Lib.decDigits (sz - fr + off).toNat))))) ⟨hle, hT, hst, hG2, hM2, hN2⟩ ⟨rfl, rfl, rfl, rfl, rfl, trivial⟩
            | exact AQ.meet (206, I8, .slice (some ⟨gh, 0, none⟩) 3 hcap, [(gh, .cells (hcur.setIfInBounds 1 (.string wkT)) 26)], (hds wkT (spanT fr (sz - 1) sz) (some (strOf (Lib.decDigits (sz - fr).toNat))))) ⟨hle, hT, hst, hG3, hM3, hN3⟩ ⟨rfl, rfl, rfl, rfl, rfl, trivial⟩
        · have hcb115 := hc115
          try simp only [decide_eq_true_eq, decide_eq_false_iff_not] at hc115
          refine CW.seq ?_
          -- region 21
          refine CW.region ?_
          refine RW.op1 rfl (runs_eqI rfl rfl) ?_
          refine RW.op1 rfl (runs_assign rfl) ?_
          refine RW.done ?_
          refine AQ.next ?_
          refine CW.cond rfl (fun hc135 => ?_) (fun hc135 => ?_)
          · have hcb135 := hc135
            try simp only [decide_eq_true_eq, decide_eq_false_iff_not] at hc135
            -- region 22
            refine CW.draw (FSt w0 I8 ((b8, Obj.cells (Value.agg #[.int .i64 (206), (.slice (some ⟨gh, 0, none⟩) 3 hcap), .string body, .bool false]).cells 45) :: L)) (.q 0 (.q 1 (.q 2 (.q 3 (.q 4 (.q 5 (.q 6 (.l 7 (.q 8 (.q 9 (.l 10 .nil))))))))))) follows (by kernel_rfl) ⟨_, Imm.le.refl _, hst.draw.sub ((List.sublist_append_right _ _).cons_cons _)⟩ ?_
            replace hst := hst.draw
            first
              | refine DRW.q rfl rfl (fun w' hF => runs_fieldAddr0 rfl Tryd.underlying45 rfl ti31 (by decide)) ?_
              | refine DRW.q rfl rfl (fun w' hF => runs_fieldAddr rfl Tryd.underlying45 rfl ti31 (by decide)) ?_
            first
              | refine DRW.q rfl rfl (FSt.load1_own sc31 rfl (k := 0) rfl rfl) ?_
              | refine DRW.q rfl rfl (FSt.load1_own sc31 rfl (k := 1) rfl rfl) ?_
              | refine DRW.q rfl rfl (FSt.load1_own sc31 rfl (k := 2) rfl rfl) ?_
            refine DRW.q rfl rfl (fun w' hF => runs_move rfl) ?_
            refine DRW.q rfl rfl (fun w' hF => runs_move rfl) ?_
            refine DRW.q rfl rfl (fun w' hF => runs_sub rfl rfl (by omega)) ?_
            refine DRW.q rfl rfl (fun w' hF => runs_move rfl) ?_
            refine DRW.q rfl rfl (fun w' hF => runs_add rfl rfl (by omega)) ?_
            refine DRW.call rfl rfl call13 rfl rfl (digits_spec hst (sz - fr + off) (by omega) (by omega)) ?_
            rintro e w ⟨rfl, hstn⟩
            clear hst
            have hst := hstn
            clear hstn
            refine ⟨_, rfl, FSt.of hst (Imm.le.refl _) (by first | exact ((List.sublist_append_right _ _).cons_cons _) | exact ((List.sublist_cons_self _ _).cons_cons _)), ?_⟩
            refine DRW.q rfl rfl (fun w' hF => runs_indexAddr0 Tryd.underlying31 ti26 rfl rfl (by decide)) ?_
            first
              | refine DRW.q rfl rfl (fun w' hF => runs_fieldAddr0 rfl Tryd.underlying26 rfl ti9 (by decide)) ?_
              | refine DRW.q rfl rfl (fun w' hF => runs_fieldAddr rfl Tryd.underlying26 rfl ti9 (by decide)) ?_
            refine DRW.opE0 rfl (runs_store1' ti9 rfl rfl hst (k := 1) rfl (by show 5 < hcur.size; omega) (NoFz.zero _) rfl) ?_
            rintro w hstn
            clear hst
            have hst := hstn
            clear hstn
            try simp only [List.set_cons_zero, List.set_cons_succ] at hst
            refine ⟨FSt.of hst (Imm.le.refl _) (by first | exact ((List.sublist_append_right _ _).cons_cons _) | exact ((List.sublist_cons_self _ _).cons_cons _)), ?_⟩
            refine DRW.done ?_
            first
              | exact AQ.meet (200, I8, .slice (some ⟨gh, 0, none⟩) 3 hcap, [(gh, .cells hcur 26)], (hds v1T (spanT fr (sz - 1) sz) (some (strOf (Lib.decDigits (sz - fr).toNat))))) ⟨hle, hT, hst, hG0, hM0, hN0⟩ ⟨rfl, rfl, rfl, rfl, rfl, trivial⟩
              | exact AQ.meet (206, I8, .slice (some ⟨gh, 0, none⟩) 3 hcap, [(gh, .cells (hcur.setIfInBounds 3 (.string (spanT fr (sz - 1) (sz + off)))) 26)], (hds v1T (spanT fr (sz - 1) (sz + off)) (some (strOf (Lib.decDigits (sz - fr).toNat))))) ⟨hle, hT, hst, hG1, hM1, hN1⟩ ⟨rfl, rfl, rfl, rfl, rfl, trivial⟩
              | exact AQ.meet (206, I8, .slice (some ⟨gh, 0, none⟩) 3 hcap, [(gh, .cells (hcur.setIfInBounds 5 (.string (strOf (Lib.decDigits (sz - fr + off).toNat)))) 26)], (hds v1T (spanT fr (sz - 1) sz) (some (strOf (Lib.decDigits (sz - fr + off).toNat))))) ⟨hle, hT, hst, hG2, hM2, hN2⟩ ⟨rfl, rfl, rfl, rfl, rfl, trivial⟩
              | exact AQ.meet (206, I8, .slice (some ⟨gh, 0, none⟩) 3 hcap, [(gh, .cells (hcur.setIfInBounds 1 (.string wkT)) 26)], (hds wkT (spanT fr (sz - 1) sz) (some (strOf (Lib.decDigits (sz - fr).toNat))))) ⟨hle, hT, hst, hG3, hM3, hN3⟩ ⟨rfl, rfl, rfl, rfl, rfl, trivial⟩
          · have hcb135 := hc135
            try simp only [decide_eq_true_eq, decide_eq_false_iff_not] at hc135
            -- region 16
            refine CW.region ?_
            first
              | refine RW.op1 rfl (runs_fieldAddr0 rfl Tryd.underlying45 rfl ti31 (by decide)) ?_
              | refine RW.op1 rfl (runs_fieldAddr rfl Tryd.underlying45 rfl ti31 (by decide)) ?_
            first
              | refine RW.op1 rfl (runs_load1 sc31 rfl (hst.cell_own (k := 0) rfl rfl)) ?_
              | refine RW.op1 rfl (runs_load1 sc31 rfl (hst.cell_own (k := 1) rfl rfl)) ?_
              | refine RW.op1 rfl (runs_load1 sc31 rfl (hst.cell_own (k := 2) rfl rfl)) ?_
            refine RW.op1 rfl (runs_indexAddr0 Tryd.underlying31 ti26 rfl rfl (by decide)) ?_
            first
              | refine RW.op1 rfl (runs_fieldAddr0 rfl Tryd.underlying26 rfl ti9 (by decide)) ?_
              | refine RW.op1 rfl (runs_fieldAddr rfl Tryd.underlying26 rfl ti9 (by decide)) ?_
            refine RW.opE0 (runs_store1' ti9 rfl rfl hst (k := 1) rfl (by show 1 < hcur.size; omega) (NoFz.zero _) rfl) ?_
            rintro w hstn
            clear hst
            have hst := hstn
            clear hstn
            try simp only [List.set_cons_zero, List.set_cons_succ] at hst
            refine RW.done ?_
            first
              | exact AQ.meet (200, I8, .slice (some ⟨gh, 0, none⟩) 3 hcap, [(gh, .cells hcur 26)], (hds v1T (spanT fr (sz - 1) sz) (some (strOf (Lib.decDigits (sz - fr).toNat))))) ⟨hle, hT, hst, hG0, hM0, hN0⟩ ⟨rfl, rfl, rfl, rfl, rfl, trivial⟩
              | exact AQ.meet (206, I8, .slice (some ⟨gh, 0, none⟩) 3 hcap, [(gh, .cells (hcur.setIfInBounds 3 (.string (spanT fr (sz - 1) (sz + off)))) 26)], (hds v1T (spanT fr (sz - 1) (sz + off)) (some (strOf (Lib.decDigits (sz - fr).toNat))))) ⟨hle, hT, hst, hG1, hM1, hN1⟩ ⟨rfl, rfl, rfl, rfl, rfl, trivial⟩
              | exact AQ.meet (206, I8, .slice (some ⟨gh, 0, none⟩) 3 hcap, [(gh, .cells (hcur.setIfInBounds 5 (.string (strOf (Lib.decDigits (sz - fr + off).toNat)))) 26)], (hds v1T (spanT fr (sz - 1) sz) (some (strOf (Lib.decDigits (sz - fr + off).toNat))))) ⟨hle, hT, hst, hG2, hM2, hN2⟩ ⟨rfl, rfl, rfl, rfl, rfl, trivial⟩
              | exact AQ.meet (206, I8, .slice (some ⟨gh, 0, none⟩) 3 hcap, [(gh, .cells (hcur.setIfInBounds 1 (.string wkT)) 26)], (hds wkT (spanT fr (sz - 1) sz) (some (strOf (Lib.decDigits (sz - fr).toNat))))) ⟨hle, hT, hst, hG3, hM3, hN3⟩ ⟨rfl, rfl, rfl, rfl, rfl, trivial⟩
    · clear hle hT hgG
      rintro ⟨code, I9, v9, Lv9, hs9⟩ w ⟨hle, hT, hstn, hg9, hok9, hno9⟩
      dsimp only at hle hT hstn hg9 hok9 hno9 ⊢
      clear hst
      have hst := hstn
      clear hstn
      refine AQ.block_normal ?_
      refine AQ.next ?_
      refine CW.seq ?_
      -- region 23
      refine CW.region ?_
      first
        | refine RW.op1 rfl (runs_loadN (vs := [_, _, _, _]) ag45 ti45 rfl hst (k := 0) rfl rfl rfl) ?_
        | refine RW.op1 rfl (runs_loadN (vs := [_, _, _, _]) ag45 ti45 rfl hst (k := 1) rfl rfl rfl) ?_
        | refine RW.op1 rfl (runs_loadN (vs := [_, _, _, _]) ag45 ti45 rfl hst (k := 2) rfl rfl rfl) ?_
      refine RW.op1 rfl (runs_move rfl) ?_
      refine RW.call rfl call17 rfl rfl (fits_own hst hg9 rfl code false body hok9 fr v1T) ?_
      rintro e w ⟨IZ, hIZ, rfl, hstn⟩
      clear hst
      have hst := hstn
      clear hstn
      rw [hno9]
      replace hT := hT.mono hIZ
      replace hle := hle.trans hIZ
      refine ⟨_, rfl, ?_⟩
      refine RW.op1 rfl (runs_move rfl) ?_
      refine RW.op1 rfl (runs_extract rfl rfl) ?_
      refine RW.op1 rfl (runs_extract rfl rfl) ?_
      refine RW.op1 rfl (runs_assign rfl) ?_
      refine RW.op1 rfl (runs_assign rfl) ?_
      refine RW.done ?_
      refine AQ.next ?_
      refine CW.seq ?_
      -- region 24
      refine CW.region ?_
      refine RW.op1 rfl (runs_move rfl) ?_
      refine RW.op1 rfl (runs_not rfl) ?_
      refine RW.op1 rfl (runs_move rfl) ?_
      have hk155 := (show (!false) = true from rfl)
      refine RW.on_guard rfl rfl rfl rfl hk155 ?_
      refine RW.op1 rfl (runs_move rfl) ?_
      refine RW.on_guard rfl rfl rfl rfl hk155 ?_
      refine RW.op1 rfl (runs_not rfl) ?_
      refine RW.op1 rfl (runs_pick_true rfl hk155 rfl) ?_
      refine RW.op1 rfl (runs_move rfl) ?_
      have hk159 := (show (!false) = true from rfl)
      refine RW.on_guard rfl rfl rfl rfl hk159 ?_
      refine RW.op1 rfl (runs_move rfl) ?_
      refine RW.on_guard rfl rfl rfl rfl hk159 ?_
      refine RW.op1 rfl (runs_not rfl) ?_
      refine RW.op1 rfl (runs_pick_true rfl hk159 rfl) ?_
      refine RW.op1 rfl (runs_move rfl) ?_
      have hk163 := (show (!false) = true from rfl)
      refine RW.on_guard rfl rfl rfl rfl hk163 ?_
      refine RW.op1 rfl (runs_move rfl) ?_
      refine RW.on_guard rfl rfl rfl rfl hk163 ?_
      refine RW.op1 rfl (runs_not rfl) ?_
      refine RW.op1 rfl (runs_pick_true rfl hk163 rfl) ?_
      refine RW.op1 rfl (runs_move rfl) ?_
      have hk167 := (show (!false) = true from rfl)
      refine RW.on_guard rfl rfl rfl rfl hk167 ?_
      refine RW.call rfl call12 rfl rfl (wakes15_spec hst hT) ?_
      rintro e w ⟨rfl, I37, hI37, hstn⟩
      clear hst
      have hst := hstn
      clear hstn
      replace hT := hT.mono hI37
      replace hle := hle.trans hI37
      refine ⟨_, rfl, ?_⟩
      refine RW.op1 rfl (runs_pick_true rfl hk167 rfl) ?_
      refine RW.op1 rfl (runs_assign rfl) ?_
      refine RW.done ?_
      refine AQ.next ?_
      refine CW.ret ?_
      refine AQ.ret1 rfl rfl ?_
      exact ⟨rfl, _, hle, hst.sub ((List.sublist_append_right _ _).trans (List.sublist_cons_self _ _))⟩
end Go.Proofs.YtjlkidokkaibiaaDoorX
