/- A few values by hand, bytes that are none: the walk. -/
import Derived.Test.YtoegloebnnjflaaT
import Derived.Test.YtoegloebnnjflaaA5
namespace Go.Proofs.YtoegloebnnjflaaX
set_option linter.unusedVariables false
set_option linter.unusedSimpArgs false
open Go Go.RowKit Go.Proofs

abbrev CRow := Value × List AV × Value × List UInt8
def crow (r : CRow) : List Value := [r.1, r.2.2.1]
theorem crow_len (r : CRow) : (crow r).length = 2 := rfl
def cgood (I : Imm) (r : CRow) : Prop := RdA I r.1 r.2.1 ∧ RdB I r.2.2.1 r.2.2.2 ∧ encA r.2.1 = r.2.2.2 ∧ (∀ a ∈ r.2.1, a.good 255 false) ∧ r.2.1.length ≤ 4
theorem crow_at {rows : List CRow} {k : Nat} {r : CRow} (hr : rows[k]? = some r) : ∀ (j : Nat) (u : Value), (crow r)[j]? = some u → ((rows.map fun r => Value.agg (crow r).toArray).flatMap vcells)[(k : Int).toNat * 2 + j]? = some u := by
  intro j u hj
  have hj5 : j < 2 := (List.getElem?_eq_some_iff.1 hj).1
  have e : (rows.map fun r => Value.agg (crow r).toArray).flatMap vcells = rows.flatMap crow := by
    rw [List.flatMap_map]
    rfl
  rw [e, Int.toNat_natCast, getElem?_flat crow_len rows k j hj5, hr]
  exact hj
theorem AV.eqb_self {m : Nat} {a : AV} (h : a.good m false) : a.eqb a = true := (AV.eqb_iff h h).2 rfl
theorem runs_neAV {l : Env} {ty t' : TypeId} {w : World} {x y : Operand} {a b : AV} {m : Nat} (hx : ev l x = some a.v) (hy : ev l y = some b.v) (ha : a.good m false) (hb : b.good m false) : Runs Try.prog (.binOp .neq 20 x y t') ty l w (.value (.bool (!a.eqb b))) w := by
  have h := eqAV ha hb
  cases a <;> cases b
  all_goals first
    | exact absurd ha.1 (by decide)
    | exact absurd hb.1 (by decide)
    | exact runs_neIface isI20 hx hy h
def cbads : List (List UInt8) := [[120], [105], [105, 0, 0, 0, 0, 0, 0, 0], [115], [115, 1], [115, 3, 97, 98], [116, 121], [0], [102, 115, 255]]
theorem cbads_no : ∀ i, i < 9 → decA (cbads.getD i []) = none := by
  intro i hi
  have h : (decA (cbads.getD i [])).isSome = false := by
    match i, hi with
    | 0, _ => rfl
    | 1, _ => rfl
    | 2, _ => rfl
    | 3, _ => rfl
    | 4, _ => rfl
    | 5, _ => rfl
    | 6, _ => rfl
    | 7, _ => rfl
    | 8, _ => rfl
  simpa using h
theorem cbads_len : ∀ i, i < 9 → (cbads.getD i []).length ≤ 100 := by decide
set_option maxRecDepth 100000 in
set_option maxHeartbeats 1000000 in
theorem cforms_spec {w0 w : World} {I : Imm} {L : Own} (hst : St w0 w I L) (n : Int) (hn : i64ok n) :
    Calls Try.prog 5 #[.int .i64 n] w fun e w' => e = .returned (.bool true) ∧ ∃ I', I.le I' ∧ St w0 w' I' L := by
  refine enter Try.func5 rfl (N := 172) rfl rfl ?_
  simp only [List.zipIdx_cons, List.zipIdx_nil, List.map_cons, List.map_nil, Nat.zero_add, Nat.reduceAdd]
  have hle := Imm.le.refl I
  refine CW.seq ?_
  -- region 0
  refine CW.region ?_
  refine RW.op1 rfl (runs_assign rfl) ?_
  refine RW.done ?_
  refine AQ.next ?_
  refine CW.seq ?_
  refine CW.seq ?_
  -- region 1
  refine CW.region ?_
  refine RW.op1 rfl (runs_buildF (cells := [_, _]) bz41 rfl rfl rfl rfl rfl) ?_
  refine RW.op1 rfl (runs_makeIface con3 rfl) ?_
  refine RW.opE rfl (runs_lit1R Try.underlying23 ti20 (by decide) rfl rfl rfl (by simp [Value.oneCell']) hst) ?_
  rintro u1 w ⟨I1, hI1, hstn, h1⟩
  clear hst
  have hst := hstn
  clear hstn
  replace hle := hle.trans hI1
  have hc23 := h1
  obtain ⟨_, _, a23, c23, rfl, _, _⟩ := hc23
  have hA1 : RdA _ _ [.num 1] := h1
  refine RW.opE rfl (runs_litB (bs := [105, 0, 0, 0, 0, 0, 0, 0, 1]) rfl Try.underlying26 ti5 (by decide) rfl rfl rfl hst) ?_
  rintro u2 w ⟨I2, hI2, hstn, h2⟩
  clear hst
  have hst := hstn
  clear hstn
  replace h1 := h1.mono hI2
  replace hA1 := hA1.mono hI2
  replace hle := hle.trans hI2
  have hc24 := h2
  obtain ⟨_, _, a24, c24, rfl, _, _⟩ := hc24
  have hB1 := h2
  refine RW.op1 rfl (runs_buildF (cells := [_, _]) bz41 rfl rfl rfl rfl rfl) ?_
  refine RW.op1 rfl (runs_makeIface con3 rfl) ?_
  refine RW.opE rfl (runs_lit1R Try.underlying23 ti20 (by decide) rfl rfl rfl (by simp [Value.oneCell']) hst) ?_
  rintro u3 w ⟨I3, hI3, hstn, h3⟩
  clear hst
  have hst := hstn
  clear hstn
  replace h1 := h1.mono hI3
  replace hA1 := hA1.mono hI3
  replace h2 := h2.mono hI3
  replace hB1 := hB1.mono hI3
  replace hle := hle.trans hI3
  have hc27 := h3
  obtain ⟨_, _, a27, c27, rfl, _, _⟩ := hc27
  have hA2 : RdA _ _ [.num (-2)] := h3
  refine RW.opE rfl (runs_litB (bs := [105, 255, 255, 255, 255, 255, 255, 255, 254]) rfl Try.underlying26 ti5 (by decide) rfl rfl rfl hst) ?_
  rintro u4 w ⟨I4, hI4, hstn, h4⟩
  clear hst
  have hst := hstn
  clear hstn
  replace h1 := h1.mono hI4
  replace hA1 := hA1.mono hI4
  replace h2 := h2.mono hI4
  replace hB1 := hB1.mono hI4
  replace h3 := h3.mono hI4
  replace hA2 := hA2.mono hI4
  replace hle := hle.trans hI4
  have hc28 := h4
  obtain ⟨_, _, a28, c28, rfl, _, _⟩ := hc28
  have hB2 := h4
  refine RW.op1 rfl (runs_buildF (cells := [_, _]) bz41 rfl rfl rfl rfl rfl) ?_
  refine RW.op1 rfl (runs_makeIface con9 rfl) ?_
  refine RW.op1 rfl (runs_makeIface con9 rfl) ?_
  refine RW.op1 rfl (runs_makeIface con4 rfl) ?_
  refine RW.op1 rfl (runs_makeIface con4 rfl) ?_
  refine RW.opE rfl (runs_lit1R Try.underlying23 ti20 (by decide) rfl rfl rfl (by simp [Value.oneCell']) hst) ?_
  rintro u5 w ⟨I5, hI5, hstn, h5⟩
  clear hst
  have hst := hstn
  clear hstn
  replace h1 := h1.mono hI5
  replace hA1 := hA1.mono hI5
  replace h2 := h2.mono hI5
  replace hB1 := hB1.mono hI5
  replace h3 := h3.mono hI5
  replace hA2 := hA2.mono hI5
  replace h4 := h4.mono hI5
  replace hB2 := hB2.mono hI5
  replace hle := hle.trans hI5
  have hc34 := h5
  obtain ⟨_, _, a34, c34, rfl, _, _⟩ := hc34
  have hA3 : RdA _ _ [.txt ⟨#[97, 98]⟩, .txt ⟨#[]⟩, .flg false, .flg true] := h5
  refine RW.opE rfl (runs_litB (bs := [115, 2, 97, 98, 115, 0, 102, 116]) rfl Try.underlying26 ti5 (by decide) rfl rfl rfl hst) ?_
  rintro u6 w ⟨I6, hI6, hstn, h6⟩
  clear hst
  have hst := hstn
  clear hstn
  replace h1 := h1.mono hI6
  replace hA1 := hA1.mono hI6
  replace h2 := h2.mono hI6
  replace hB1 := hB1.mono hI6
  replace h3 := h3.mono hI6
  replace hA2 := hA2.mono hI6
  replace h4 := h4.mono hI6
  replace hB2 := hB2.mono hI6
  replace h5 := h5.mono hI6
  replace hA3 := hA3.mono hI6
  replace hle := hle.trans hI6
  have hc35 := h6
  obtain ⟨_, _, a35, c35, rfl, _, _⟩ := hc35
  have hB3 := h6
  refine RW.op1 rfl (runs_buildF (cells := [_, _]) bz41 rfl rfl rfl rfl rfl) ?_
  refine RW.op1 rfl (runs_makeIface con3 rfl) ?_
  refine RW.opE rfl (runs_lit1R Try.underlying23 ti20 (by decide) rfl rfl rfl (by simp [Value.oneCell']) hst) ?_
  rintro u7 w ⟨I7, hI7, hstn, h7⟩
  clear hst
  have hst := hstn
  clear hstn
  replace h1 := h1.mono hI7
  replace hA1 := hA1.mono hI7
  replace h2 := h2.mono hI7
  replace hB1 := hB1.mono hI7
  replace h3 := h3.mono hI7
  replace hA2 := hA2.mono hI7
  replace h4 := h4.mono hI7
  replace hB2 := hB2.mono hI7
  replace h5 := h5.mono hI7
  replace hA3 := hA3.mono hI7
  replace h6 := h6.mono hI7
  replace hB3 := hB3.mono hI7
  replace hle := hle.trans hI7
  have hc38 := h7
  obtain ⟨_, _, a38, c38, rfl, _, _⟩ := hc38
  have hA4 : RdA _ _ [.num 9223372036854775807] := h7
  refine RW.opE rfl (runs_litB (bs := [105, 127, 255, 255, 255, 255, 255, 255, 255]) rfl Try.underlying26 ti5 (by decide) rfl rfl rfl hst) ?_
  rintro u8 w ⟨I8, hI8, hstn, h8⟩
  clear hst
  have hst := hstn
  clear hstn
  replace h1 := h1.mono hI8
  replace hA1 := hA1.mono hI8
  replace h2 := h2.mono hI8
  replace hB1 := hB1.mono hI8
  replace h3 := h3.mono hI8
  replace hA2 := hA2.mono hI8
  replace h4 := h4.mono hI8
  replace hB2 := hB2.mono hI8
  replace h5 := h5.mono hI8
  replace hA3 := hA3.mono hI8
  replace h6 := h6.mono hI8
  replace hB3 := hB3.mono hI8
  replace h7 := h7.mono hI8
  replace hA4 := hA4.mono hI8
  replace hle := hle.trans hI8
  have hc39 := h8
  obtain ⟨_, _, a39, c39, rfl, _, _⟩ := hc39
  have hB4 := h8
  refine RW.op1 rfl (runs_buildF (cells := [_, _]) bz41 rfl rfl rfl rfl rfl) ?_
  refine RW.opE rfl (runs_litF (xs := ([(.slice none 0 0, [], .slice none 0 0, []), (_, [.num 1], _, [105, 0, 0, 0, 0, 0, 0, 0, 1]), (_, [.num (-2)], _, [105, 255, 255, 255, 255, 255, 255, 255, 254]), (_, [.txt ⟨#[97, 98]⟩, .txt ⟨#[]⟩, .flg false, .flg true], _, [115, 2, 97, 98, 115, 0, 102, 116]), (_, [.num 9223372036854775807], _, [105, 127, 255, 255, 255, 255, 255, 255, 255])] : List CRow).map fun r => .agg (crow r).toArray) Try.underlying42 ti41 (by decide) rfl rfl rfl rfl (by simp [crow, vcells, Value.oneCell', hA1.one, hB1.one, hA2.one, hB2.one, hA3.one, hB3.one, hA4.one, hB4.one]) hst (by decide)) ?_
  rintro uR w ⟨LvR, hstn, hgR⟩
  clear hst
  have hst := hstn
  clear hstn
  obtain ⟨J, hJ, hstn, hR⟩ := Grow.freeze hgR hst
  clear hst
  have hst := hstn
  clear hstn
  replace hle := hle.trans hJ
  replace hA1 := hA1.mono hJ
  replace hB1 := hB1.mono hJ
  replace hA2 := hA2.mono hJ
  replace hB2 := hB2.mono hJ
  replace hA3 := hA3.mono hJ
  replace hB3 := hB3.mono hJ
  replace hA4 := hA4.mono hJ
  replace hB4 := hB4.mono hJ
  have hrows : ∀ r ∈ ([(.slice none 0 0, [], .slice none 0 0, []), (.slice a23 1 c23, [.num 1], .slice a24 9 c24, [105, 0, 0, 0, 0, 0, 0, 0, 1]), (.slice a27 1 c27, [.num (-2)], .slice a28 9 c28, [105, 255, 255, 255, 255, 255, 255, 255, 254]), (.slice a34 4 c34, [.txt ⟨#[97, 98]⟩, .txt ⟨#[]⟩, .flg false, .flg true], .slice a35 8 c35, [115, 2, 97, 98, 115, 0, 102, 116]), (.slice a38 1 c38, [.num 9223372036854775807], .slice a39 9 c39, [105, 127, 255, 255, 255, 255, 255, 255, 255])] : List CRow), cgood J r := by
    intro r hr
    simp only [List.mem_cons, List.not_mem_nil, or_false] at hr
    rcases hr with rfl | rfl | rfl | rfl | rfl
    · exact ⟨RdL.nil 1, RdL.nil 1, rfl, by simp, by decide⟩
    · exact ⟨hA1, hB1, by simp [encA, enc1, be8]; decide, (by intro a ha; simp only [List.mem_cons, List.not_mem_nil, or_false] at ha; subst ha; all_goals first | trivial | (show i64ok _; unfold i64ok; omega) | (show ByteArray.size _ ≤ _; decide)), by simp⟩
    · exact ⟨hA2, hB2, by simp [encA, enc1, be8]; decide, (by intro a ha; simp only [List.mem_cons, List.not_mem_nil, or_false] at ha; subst ha; all_goals first | trivial | (show i64ok _; unfold i64ok; omega) | (show ByteArray.size _ ≤ _; decide)), by simp⟩
    · exact ⟨hA3, hB3, by simp [encA, enc1, be8]; decide, (by intro a ha; simp only [List.mem_cons, List.not_mem_nil, or_false] at ha; rcases ha with rfl | rfl | rfl | rfl; all_goals first | trivial | (show i64ok _; unfold i64ok; omega) | (show ByteArray.size _ ≤ _; decide)), by simp⟩
    · exact ⟨hA4, hB4, by simp [encA, enc1, be8]; decide, (by intro a ha; simp only [List.mem_cons, List.not_mem_nil, or_false] at ha; subst ha; all_goals first | trivial | (show i64ok _; unfold i64ok; omega) | (show ByteArray.size _ ≤ _; decide)), by simp⟩
  have hle0 := hle
  refine RW.op1 rfl (RdL.len Try.underlying42 rfl hR) ?_
  refine RW.op1 rfl (runs_move rfl) ?_
  refine RW.done ?_
  refine AQ.next ?_
  refine CW.block ?_
  -- loop 1
  refine CW.loop (Nat × Imm) (fun x w => J.le x.2 ∧ St w0 w x.2 L ∧ x.1 ≤ 5) (fun x => [(0, .int .i64 n), (41, uR), (42, .int .i64 (5 : Nat)), (43, .int .i64 (x.1 : Int))]) (fun x => 5 - x.1) ⟨(0, J), ⟨Imm.le.refl _, hst, by omega⟩, ⟨rfl, rfl, rfl, rfl, trivial⟩⟩ ?_
  rintro ⟨k, I5⟩ w ⟨hle, hstn, hk⟩
  dsimp only at hle hstn hk ⊢
  clear hst
  have hst := hstn
  clear hstn
  have hR5 := RdL.mono hle hR
  refine CW.seq ?_
  -- region 2
  refine CW.region ?_
  refine RW.op1 rfl (runs_lss rfl rfl) ?_
  refine RW.done ?_
  refine AQ.next ?_
  refine CW.seq ?_
  refine CW.cond rfl (fun hc44 => ?_) (fun hc44 => ?_)
  · have hcb44 := hc44
    try simp only [decide_eq_true_eq, decide_eq_false_iff_not] at hc44
    obtain ⟨r, hr⟩ : ∃ r, ([(.slice none 0 0, [], .slice none 0 0, []), (.slice a23 1 c23, [.num 1], .slice a24 9 c24, [105, 0, 0, 0, 0, 0, 0, 0, 1]), (.slice a27 1 c27, [.num (-2)], .slice a28 9 c28, [105, 255, 255, 255, 255, 255, 255, 255, 254]), (.slice a34 4 c34, [.txt ⟨#[97, 98]⟩, .txt ⟨#[]⟩, .flg false, .flg true], .slice a35 8 c35, [115, 2, 97, 98, 115, 0, 102, 116]), (.slice a38 1 c38, [.num 9223372036854775807], .slice a39 9 c39, [105, 127, 255, 255, 255, 255, 255, 255, 255])] : List CRow)[k]? = some r := ⟨_, List.getElem?_eq_getElem (show k < 5 by omega)⟩
    obtain ⟨hva, hub, henc, hgd, hal⟩ := hrows r (List.mem_of_getElem? hr)
    replace hva := hva.mono hle
    replace hub := hub.mono hle
    obtain ⟨v, av, u, bs⟩ := r
    dsimp only at hva hub henc hgd hal
    subst henc
    have hok := good_encOk hgd (by decide)
    have hel := encA_le hok
    have hvc := hva
    obtain ⟨_, _, A1, c1, rfl, _, _⟩ := hvc
    have huc := hub
    obtain ⟨_, _, A2, c2, rfl, _, _⟩ := huc
    refine CW.skip ?_
    refine AQ.next ?_
    refine CW.seq ?_
    refine CW.block ?_
    refine CW.seq ?_
    -- region 3
    refine CW.region ?_
    refine RW.op1 rfl (RdL.indexAddr Try.underlying42 ti41 (by decide) rfl rfl hR5 (by omega)) ?_
    refine RW.op1 rfl (RdL.loadRow (row := crow (_, av, _, encA av)) ag41 ti41 rfl hR5 hst rfl (crow_at hr)) ?_
    refine RW.opE rfl (runs_alloc ti41 hst) ?_
    rintro _ w ⟨b4, rfl, hstn⟩
    clear hst
    have hst := hstn
    clear hstn
    first
      | refine RW.opE0 (runs_storeW ti41 rfl rfl hst (k := 0) rfl rfl rfl (NoFz.zero _) rfl) ?_
      | refine RW.opE0 (runs_storeP ti41 rfl rfl hst (k := 0) rfl rfl rfl (NoFz.zero _) rfl) ?_
      | refine RW.opE0 (runs_storeW ti41 rfl rfl hst (k := 1) rfl rfl rfl (NoFz.zero _) rfl) ?_
      | refine RW.opE0 (runs_storeP ti41 rfl rfl hst (k := 1) rfl rfl rfl (NoFz.zero _) rfl) ?_
      | refine RW.opE0 (runs_storeW ti41 rfl rfl hst (k := 2) rfl rfl rfl (NoFz.zero _) rfl) ?_
      | refine RW.opE0 (runs_storeP ti41 rfl rfl hst (k := 2) rfl rfl rfl (NoFz.zero _) rfl) ?_
    rintro w hstn
    clear hst
    have hst := hstn
    clear hstn
    try simp only [List.set_cons_zero, List.set_cons_succ] at hst
    refine RW.done ?_
    refine AQ.next ?_
    refine CW.seq ?_
    -- region 4
    refine CW.region ?_
    first
      | refine RW.op1 rfl (runs_fieldAddr0 rfl Try.underlying41 rfl ti23 (by decide)) ?_
      | refine RW.op1 rfl (runs_fieldAddr rfl Try.underlying41 rfl ti23 (by decide)) ?_
    first
      | refine RW.op1 rfl (runs_load1 sc23 rfl (hst.cell_own (k := 0) rfl rfl)) ?_
      | refine RW.op1 rfl (runs_load1 sc23 rfl (hst.cell_own (k := 1) rfl rfl)) ?_
      | refine RW.op1 rfl (runs_load1 sc23 rfl (hst.cell_own (k := 2) rfl rfl)) ?_
    refine RW.call rfl call10 rfl rfl (enc_spec (av := av) (m := 255) (o := false) hst hva hgd (by omega)) ?_
    rintro e w ⟨I12, vE, hI12, rfl, hstn, hE⟩
    clear hst
    have hst := hstn
    clear hstn
    rw [hok] at hE ⊢; simp only [if_true, if_false, Bool.false_eq_true] at hE ⊢
    replace hva := hva.mono hI12
    replace hub := hub.mono hI12
    replace hle := hle.trans hI12
    refine ⟨_, rfl, ?_⟩
    refine RW.op1 rfl (runs_move rfl) ?_
    refine RW.op1 rfl (runs_extract rfl rfl) ?_
    refine RW.op1 rfl (runs_extract rfl rfl) ?_
    refine RW.op1 rfl (runs_assign rfl) ?_
    refine RW.op1 rfl (runs_assign rfl) ?_
    refine RW.done ?_
    refine AQ.next ?_
    refine CW.seq ?_
    -- region 5
    refine CW.region ?_
    first
      | refine RW.op1 rfl (runs_fieldAddr0 rfl Try.underlying41 rfl ti26 (by decide)) ?_
      | refine RW.op1 rfl (runs_fieldAddr rfl Try.underlying41 rfl ti26 (by decide)) ?_
    first
      | refine RW.op1 rfl (runs_load1 sc26 rfl (hst.cell_own (k := 0) rfl rfl)) ?_
      | refine RW.op1 rfl (runs_load1 sc26 rfl (hst.cell_own (k := 1) rfl rfl)) ?_
      | refine RW.op1 rfl (runs_load1 sc26 rfl (hst.cell_own (k := 2) rfl rfl)) ?_
    refine RW.call rfl call18 rfl rfl (dec_spec hst hub (by omega)) ?_
    rintro e w ⟨I13, vD, hI13, rfl, hstn, hD⟩
    clear hst
    have hst := hstn
    clear hstn
    rw [decA_encA (Nat.le_refl 255) hgd] at hD ⊢
    simp only [Option.isSome_some, Option.getD_some, if_true] at hD ⊢
    replace hva := hva.mono hI13
    replace hub := hub.mono hI13
    replace hE := hE.mono hI13
    replace hle := hle.trans hI13
    refine ⟨_, rfl, ?_⟩
    refine RW.op1 rfl (runs_move rfl) ?_
    refine RW.op1 rfl (runs_extract rfl rfl) ?_
    refine RW.op1 rfl (runs_extract rfl rfl) ?_
    refine RW.op1 rfl (runs_assign rfl) ?_
    refine RW.op1 rfl (runs_assign rfl) ?_
    refine RW.done ?_
    refine AQ.next ?_
    refine CW.seq ?_
    refine CW.seq ?_
    -- region 6
    refine CW.region ?_
    refine RW.op1 rfl (runs_move rfl) ?_
    refine RW.op1 rfl (runs_neI rfl rfl) ?_
    refine RW.op1 rfl (runs_move rfl) ?_
    have hk61 := (show decide ((0 : Int) ≠ 0) = false from by decide)
    refine RW.on_guard rfl rfl rfl rfl hk61 ?_
    refine RW.op1 rfl (runs_move rfl) ?_
    refine RW.on_guard rfl rfl rfl rfl hk61 ?_
    first
      | refine RW.op1 rfl (runs_fieldAddr0 rfl Try.underlying41 rfl ti26 (by decide)) ?_
      | refine RW.op1 rfl (runs_fieldAddr rfl Try.underlying41 rfl ti26 (by decide)) ?_
    refine RW.on_guard rfl rfl rfl rfl hk61 ?_
    first
      | refine RW.op1 rfl (runs_load1 sc26 rfl (hst.cell_own (k := 0) rfl rfl)) ?_
      | refine RW.op1 rfl (runs_load1 sc26 rfl (hst.cell_own (k := 1) rfl rfl)) ?_
      | refine RW.op1 rfl (runs_load1 sc26 rfl (hst.cell_own (k := 2) rfl rfl)) ?_
    refine RW.on_guard rfl rfl rfl rfl hk61 ?_
    refine RW.call rfl call11 rfl rfl (same_spec hst hE hub (by omega)) ?_
    rintro e w ⟨rfl, hstn⟩
    clear hst
    have hst := hstn
    clear hstn
    refine ⟨_, rfl, ?_⟩
    refine RW.on_guard rfl rfl rfl rfl hk61 ?_
    refine RW.op1 rfl (runs_not rfl) ?_
    refine RW.op1 rfl (runs_pick_false rfl hk61 rfl) ?_
    refine RW.op1 rfl (runs_move rfl) ?_
    have hk68 := (show (!decide (encA av = encA av)) = false by simp)
    refine RW.on_guard rfl rfl rfl rfl hk68 ?_
    refine RW.op1 rfl (runs_move rfl) ?_
    refine RW.on_guard rfl rfl rfl rfl hk68 ?_
    refine RW.op1 rfl (runs_neI rfl rfl) ?_
    refine RW.op1 rfl (runs_pick_false rfl hk68 rfl) ?_
    refine RW.op1 rfl (runs_move rfl) ?_
    have hk72 := (show decide ((0 : Int) ≠ 0) = false from by decide)
    refine RW.on_guard rfl rfl rfl rfl hk72 ?_
    refine RW.op1 rfl (runs_move rfl) ?_
    refine RW.on_guard rfl rfl rfl rfl hk72 ?_
    refine RW.op1 rfl (RdL.len Try.underlying23 rfl hD) ?_
    refine RW.on_guard rfl rfl rfl rfl hk72 ?_
    first
      | refine RW.op1 rfl (runs_fieldAddr0 rfl Try.underlying41 rfl ti23 (by decide)) ?_
      | refine RW.op1 rfl (runs_fieldAddr rfl Try.underlying41 rfl ti23 (by decide)) ?_
    refine RW.on_guard rfl rfl rfl rfl hk72 ?_
    first
      | refine RW.op1 rfl (runs_load1 sc23 rfl (hst.cell_own (k := 0) rfl rfl)) ?_
      | refine RW.op1 rfl (runs_load1 sc23 rfl (hst.cell_own (k := 1) rfl rfl)) ?_
      | refine RW.op1 rfl (runs_load1 sc23 rfl (hst.cell_own (k := 2) rfl rfl)) ?_
    refine RW.on_guard rfl rfl rfl rfl hk72 ?_
    refine RW.op1 rfl (RdL.len Try.underlying23 rfl hva) ?_
    refine RW.on_guard rfl rfl rfl rfl hk72 ?_
    refine RW.op1 rfl (runs_neI rfl rfl) ?_
    refine RW.op1 rfl (runs_pick_false rfl hk72 rfl) ?_
    refine RW.done ?_
    refine AQ.next ?_
    refine CW.cond rfl (fun hc => absurd hc (by simp)) (fun hc => ?_)
    refine CW.skip ?_
    refine AQ.next ?_
    refine CW.seq ?_
    -- region 8
    refine CW.region ?_
    refine RW.op1 rfl (runs_move rfl) ?_
    refine RW.op1 rfl (RdL.len Try.underlying23 rfl hD) ?_
    refine RW.op1 rfl (runs_move rfl) ?_
    refine RW.done ?_
    refine AQ.next ?_
    refine CW.block ?_
    -- loop 2
    refine CW.loop Nat (fun i w => ∃ I6, J.le I6 ∧ St w0 w I6 ((b4, .cells #[.slice A1 av.length c1, .slice A2 (encA av).length c2] 41) :: L) ∧ RdA I6 vD av ∧ RdA I6 (.slice A1 av.length c1) av ∧ i ≤ av.length) (fun i => [(0, .int .i64 n), (41, uR), (42, .int .i64 (5 : Nat)), (43, .int .i64 (k : Int)), (7, vD), (4, .pointer (some ⟨b4, 0, none⟩)), (81, .int .i64 (av.length : Int)), (82, .int .i64 (i : Int))]) (fun i => av.length - i) ⟨0, ⟨_, hle, hst, hD, hva, Nat.zero_le _⟩, ⟨rfl, rfl, rfl, rfl, rfl, rfl, rfl, rfl, trivial⟩⟩ ?_
    rintro i w ⟨I6, hle, hstn, hD, hva, hi⟩
    clear hst
    have hst := hstn
    clear hstn
    refine CW.seq ?_
    -- region 9
    refine CW.region ?_
    refine RW.op1 rfl (runs_lss rfl rfl) ?_
    refine RW.done ?_
    refine AQ.next ?_
    refine CW.seq ?_
    refine CW.cond rfl (fun hc83 => ?_) (fun hc83 => ?_)
    · have hcb83 := hc83
      try simp only [decide_eq_true_eq, decide_eq_false_iff_not] at hc83
      refine CW.skip ?_
      refine AQ.next ?_
      refine CW.seq ?_
      refine CW.block ?_
      refine CW.seq ?_
      -- region 10
      refine CW.region ?_
      refine RW.op1 rfl (runs_move rfl) ?_
      refine RW.op1 rfl (runs_assign rfl) ?_
      refine RW.done ?_
      refine AQ.next ?_
      refine CW.seq ?_
      -- region 11
      refine CW.drawSt hst (.q 0 (.q 1 (.q 2 (.q 3 (.q 4 (.q 5 (.q 6 (.q 7 (.q 8 (.q 9 .nil)))))))))) follows (by kernel_rfl) (fun w hst => ?_)
      refine DRW.q rfl rfl (fun w' hF => runs_move rfl) ?_
      refine DRW.q rfl rfl (fun w' hF => runs_move rfl) ?_
      refine DRW.q rfl rfl (fun w' hF => RdL.indexAddr Try.underlying23 ti20 (by decide) rfl rfl hD (by omega)) ?_
      refine DRW.q rfl rfl (FSt.load1 sc20 rfl (RdA.at (i := (i : Int)) hD (by omega) (by omega))) ?_
      first
        | refine DRW.q rfl rfl (fun w' hF => runs_fieldAddr0 rfl Try.underlying41 rfl ti23 (by decide)) ?_
        | refine DRW.q rfl rfl (fun w' hF => runs_fieldAddr rfl Try.underlying41 rfl ti23 (by decide)) ?_
      first
        | refine DRW.q rfl rfl (FSt.load1_own sc23 rfl (k := 0) rfl rfl) ?_
        | refine DRW.q rfl rfl (FSt.load1_own sc23 rfl (k := 1) rfl rfl) ?_
        | refine DRW.q rfl rfl (FSt.load1_own sc23 rfl (k := 2) rfl rfl) ?_
      refine DRW.q rfl rfl (fun w' hF => runs_move rfl) ?_
      refine DRW.q rfl rfl (fun w' hF => RdL.indexAddr Try.underlying23 ti20 (by decide) rfl rfl hva (by omega)) ?_
      refine DRW.q rfl rfl (FSt.load1 sc20 rfl (RdA.at (i := (i : Int)) hva (by omega) (by omega))) ?_
      refine DRW.q rfl rfl (fun w' hF => runs_neAV rfl rfl (hgd _ (List.getElem_mem _)) (hgd _ (List.getElem_mem _))) ?_
      refine DRW.done ?_
      refine AQ.next ?_
      refine CW.cond rfl (fun hc => absurd hc (by rw [AV.eqb_self (hgd _ (List.getElem_mem _))]; decide)) (fun hc => ?_)
      refine CW.skip ?_
      refine AQ.block_normal ?_
      refine AQ.next ?_
      -- region 13
      refine CW.region ?_
      refine RW.op1 rfl (runs_add rfl rfl (by omega)) ?_
      refine RW.op1 rfl (runs_move rfl) ?_
      refine RW.done ?_
      exact AQ.again (i + 1) ⟨I6, hle, hst, hD, hva, by omega⟩ ⟨rfl, rfl, rfl, rfl, rfl, rfl, rfl, rfl, trivial⟩ (by omega)
    · have hcb83 := hc83
      try simp only [decide_eq_true_eq, decide_eq_false_iff_not] at hc83
      refine CW.exit ?_
      refine AQ.past_exit ?_
      refine AQ.past_exit ?_
      refine AQ.block_hit ?_
      refine AQ.block_normal ?_
      refine AQ.next ?_
      -- region 14
      refine CW.region ?_
      refine RW.op1 rfl (runs_add rfl rfl (by omega)) ?_
      refine RW.op1 rfl (runs_move rfl) ?_
      refine RW.done ?_
      exact AQ.again (x := (k, I5)) (k + 1, _) ⟨hle, hst.drop1, by omega⟩ ⟨rfl, rfl, rfl, rfl, trivial⟩ (by dsimp only; omega)
  · have hcb44 := hc44
    try simp only [decide_eq_true_eq, decide_eq_false_iff_not] at hc44
    skip
    refine CW.exit ?_
    refine AQ.past_exit ?_
    refine AQ.past_exit ?_
    refine AQ.block_hit ?_
    refine AQ.next ?_
    refine CW.seq ?_
    -- region 15
    refine CW.region ?_
    refine RW.opE rfl (runs_litB (bs := [120]) rfl Try.underlying26 ti5 (by decide) rfl rfl rfl hst) ?_
    rintro u15 w ⟨I15, hI15, hstn, h15⟩
    clear hst
    have hst := hstn
    clear hstn
    replace hle := hle.trans hI15
    have hC0 := h15
    refine RW.opE rfl (runs_litB (bs := [105]) rfl Try.underlying26 ti5 (by decide) rfl rfl rfl hst) ?_
    rintro u16 w ⟨I16, hI16, hstn, h16⟩
    clear hst
    have hst := hstn
    clear hstn
    replace h15 := h15.mono hI16
    replace hC0 := hC0.mono hI16
    replace hle := hle.trans hI16
    have hC1 := h16
    refine RW.opE rfl (runs_litB (bs := [105, 0, 0, 0, 0, 0, 0, 0]) rfl Try.underlying26 ti5 (by decide) rfl rfl rfl hst) ?_
    rintro u17 w ⟨I17, hI17, hstn, h17⟩
    clear hst
    have hst := hstn
    clear hstn
    replace h15 := h15.mono hI17
    replace hC0 := hC0.mono hI17
    replace h16 := h16.mono hI17
    replace hC1 := hC1.mono hI17
    replace hle := hle.trans hI17
    have hC2 := h17
    refine RW.opE rfl (runs_litB (bs := [115]) rfl Try.underlying26 ti5 (by decide) rfl rfl rfl hst) ?_
    rintro u18 w ⟨I18, hI18, hstn, h18⟩
    clear hst
    have hst := hstn
    clear hstn
    replace h15 := h15.mono hI18
    replace hC0 := hC0.mono hI18
    replace h16 := h16.mono hI18
    replace hC1 := hC1.mono hI18
    replace h17 := h17.mono hI18
    replace hC2 := hC2.mono hI18
    replace hle := hle.trans hI18
    have hC3 := h18
    refine RW.opE rfl (runs_litB (bs := [115, 1]) rfl Try.underlying26 ti5 (by decide) rfl rfl rfl hst) ?_
    rintro u19 w ⟨I19, hI19, hstn, h19⟩
    clear hst
    have hst := hstn
    clear hstn
    replace h15 := h15.mono hI19
    replace hC0 := hC0.mono hI19
    replace h16 := h16.mono hI19
    replace hC1 := hC1.mono hI19
    replace h17 := h17.mono hI19
    replace hC2 := hC2.mono hI19
    replace h18 := h18.mono hI19
    replace hC3 := hC3.mono hI19
    replace hle := hle.trans hI19
    have hC4 := h19
    refine RW.opE rfl (runs_litB (bs := [115, 3, 97, 98]) rfl Try.underlying26 ti5 (by decide) rfl rfl rfl hst) ?_
    rintro u20 w ⟨I20, hI20, hstn, h20⟩
    clear hst
    have hst := hstn
    clear hstn
    replace h15 := h15.mono hI20
    replace hC0 := hC0.mono hI20
    replace h16 := h16.mono hI20
    replace hC1 := hC1.mono hI20
    replace h17 := h17.mono hI20
    replace hC2 := hC2.mono hI20
    replace h18 := h18.mono hI20
    replace hC3 := hC3.mono hI20
    replace h19 := h19.mono hI20
    replace hC4 := hC4.mono hI20
    replace hle := hle.trans hI20
    have hC5 := h20
    refine RW.opE rfl (runs_litB (bs := [116, 121]) rfl Try.underlying26 ti5 (by decide) rfl rfl rfl hst) ?_
    rintro u21 w ⟨I21, hI21, hstn, h21⟩
    clear hst
    have hst := hstn
    clear hstn
    replace h15 := h15.mono hI21
    replace hC0 := hC0.mono hI21
    replace h16 := h16.mono hI21
    replace hC1 := hC1.mono hI21
    replace h17 := h17.mono hI21
    replace hC2 := hC2.mono hI21
    replace h18 := h18.mono hI21
    replace hC3 := hC3.mono hI21
    replace h19 := h19.mono hI21
    replace hC4 := hC4.mono hI21
    replace h20 := h20.mono hI21
    replace hC5 := hC5.mono hI21
    replace hle := hle.trans hI21
    have hC6 := h21
    refine RW.opE rfl (runs_litB (bs := [0]) rfl Try.underlying26 ti5 (by decide) rfl rfl rfl hst) ?_
    rintro u22 w ⟨I22, hI22, hstn, h22⟩
    clear hst
    have hst := hstn
    clear hstn
    replace h15 := h15.mono hI22
    replace hC0 := hC0.mono hI22
    replace h16 := h16.mono hI22
    replace hC1 := hC1.mono hI22
    replace h17 := h17.mono hI22
    replace hC2 := hC2.mono hI22
    replace h18 := h18.mono hI22
    replace hC3 := hC3.mono hI22
    replace h19 := h19.mono hI22
    replace hC4 := hC4.mono hI22
    replace h20 := h20.mono hI22
    replace hC5 := hC5.mono hI22
    replace h21 := h21.mono hI22
    replace hC6 := hC6.mono hI22
    replace hle := hle.trans hI22
    have hC7 := h22
    refine RW.opE rfl (runs_litB (bs := [102, 115, 255]) rfl Try.underlying26 ti5 (by decide) rfl rfl rfl hst) ?_
    rintro u23 w ⟨I23, hI23, hstn, h23⟩
    clear hst
    have hst := hstn
    clear hstn
    replace h15 := h15.mono hI23
    replace hC0 := hC0.mono hI23
    replace h16 := h16.mono hI23
    replace hC1 := hC1.mono hI23
    replace h17 := h17.mono hI23
    replace hC2 := hC2.mono hI23
    replace h18 := h18.mono hI23
    replace hC3 := hC3.mono hI23
    replace h19 := h19.mono hI23
    replace hC4 := hC4.mono hI23
    replace h20 := h20.mono hI23
    replace hC5 := hC5.mono hI23
    replace h21 := h21.mono hI23
    replace hC6 := hC6.mono hI23
    replace h22 := h22.mono hI23
    replace hC7 := hC7.mono hI23
    replace hle := hle.trans hI23
    have hC8 := h23
    refine RW.opE rfl (runs_lit1R (xs := [_, _, _, _, _, _, _, _, _]) Try.underlying45 ti26 (by decide) rfl rfl rfl (RdAll.one (bss := cbads) ⟨hC0, hC1, hC2, hC3, hC4, hC5, hC6, hC7, hC8, trivial⟩) hst) ?_
    rintro u24 w ⟨I24, hI24, hstn, h24⟩
    clear hst
    have hst := hstn
    clear hstn
    replace h15 := h15.mono hI24
    replace hC0 := hC0.mono hI24
    replace h16 := h16.mono hI24
    replace hC1 := hC1.mono hI24
    replace h17 := h17.mono hI24
    replace hC2 := hC2.mono hI24
    replace h18 := h18.mono hI24
    replace hC3 := hC3.mono hI24
    replace h19 := h19.mono hI24
    replace hC4 := hC4.mono hI24
    replace h20 := h20.mono hI24
    replace hC5 := hC5.mono hI24
    replace h21 := h21.mono hI24
    replace hC6 := hC6.mono hI24
    replace h22 := h22.mono hI24
    replace hC7 := hC7.mono hI24
    replace h23 := h23.mono hI24
    replace hC8 := hC8.mono hI24
    replace hle := hle.trans hI24
    have hC : RdR _ u24 _ cbads := RdR.of_all h24 rfl ⟨hC0, hC1, hC2, hC3, hC4, hC5, hC6, hC7, hC8, trivial⟩
    clear hC0 hC1 hC2 hC3 hC4 hC5 hC6 hC7 hC8
    refine RW.op1 rfl (runs_assign rfl) ?_
    refine RW.done ?_
    refine AQ.next ?_
    refine CW.seq ?_
    -- region 16
    refine CW.region ?_
    refine RW.op1 rfl (runs_move rfl) ?_
    refine RW.op1 rfl (runs_move rfl) ?_
    refine RW.op1 rfl (runs_move rfl) ?_
    refine RW.op1 rfl (RdL.len Try.underlying45 rfl hC.1) ?_
    refine RW.call rfl call14 rfl rfl (within_spec hst (v := n) (n := 9) hn (by unfold i64ok; omega)) ?_
    rintro e w ⟨rfl, hstn⟩
    clear hst
    have hst := hstn
    clear hstn
    have hw112 := within_range n 9
    obtain ⟨q, hq⟩ : ∃ q : Nat, within n 9 = q := ⟨(within n 9).toNat, by omega⟩
    rw [hq] at hw112 ⊢
    have hrow := hC.row (i := q) (by show q < 9; omega)
    refine ⟨_, rfl, ?_⟩
    refine RW.op1 rfl (RdL.indexAddr Try.underlying45 ti26 (by decide) rfl rfl hC.1 (by show 0 ≤ (q : Int) ∧ (q : Int) < 9; omega)) ?_
    refine RW.op1 rfl (runs_load1 sc26 rfl (hst.cell_imm (RdR.at hC (by omega) (by show (q : Int) < 9; omega)))) ?_
    refine RW.call rfl call18 rfl rfl (dec_spec (b := cbads.getD q []) hst hrow (Nat.le_trans (cbads_len q (by omega)) (by decide))) ?_
    rintro e w ⟨I26, vM, hI26, rfl, hstn, hM⟩
    clear hst
    have hst := hstn
    clear hstn
    rw [cbads_no q (by omega)] at hM ⊢
    simp only [Option.isSome_none, Option.getD_none, if_false, Bool.false_eq_true] at hM ⊢
    replace hC := hC.mono hI26
    replace hle := hle.trans hI26
    refine ⟨_, rfl, ?_⟩
    refine RW.op1 rfl (runs_move rfl) ?_
    refine RW.op1 rfl (runs_extract rfl rfl) ?_
    refine RW.op1 rfl (runs_extract rfl rfl) ?_
    refine RW.op1 rfl (runs_assign rfl) ?_
    refine RW.op1 rfl (runs_assign rfl) ?_
    refine RW.done ?_
    refine AQ.next ?_
    refine CW.seq ?_
    -- region 17
    refine CW.region ?_
    refine RW.opE rfl (runs_makeSlice (n := 255) Try.underlying26 ti5 rfl hst (by omega) (by unfold maxLen; omega)) ?_
    rintro _ w ⟨b119, rfl, hstn⟩
    clear hst
    have hst := hstn
    clear hstn
    rw [made_b8] at hst
    obtain ⟨I119, hI119, hstn, hS1⟩ := RdB.of_block (n := 255) (by simp) hst (by unfold maxLen; omega)
    clear hst
    have hst := hstn
    clear hstn
    replace hM := hM.mono hI119
    replace hle := hle.trans hI119
    refine RW.op1 rfl (RdB.string Try.underlying26 Try.underlying5 Try.underlying9 rfl (by assumption) hst) ?_
    refine RW.op1 rfl (runs_makeIface con9 rfl) ?_
    refine RW.opE rfl (runs_lit1R Try.underlying23 ti20 (by decide) rfl rfl rfl (by simp [Value.oneCell']) hst) ?_
    rintro u28 w ⟨I28, hI28, hstn, h28⟩
    clear hst
    have hst := hstn
    clear hstn
    replace hM := hM.mono hI28
    replace hS1 := hS1.mono hI28
    replace hle := hle.trans hI28
    refine RW.call rfl call10 rfl rfl (enc_spec (av := [.txt (strOf (List.replicate 255 0))]) (m := 255) (o := false) hst (by assumption) (fun a ha => by rw [List.mem_singleton.1 ha]; show (strOf _).size ≤ 255; rw [strOf_size]; decide) (by decide)) ?_
    rintro e w ⟨I29, vF, hI29, rfl, hstn, hF⟩
    clear hst
    have hst := hstn
    clear hstn
    rw [show encOk [.txt (strOf (List.replicate 255 0))] = true by simp [encOk, enc1Ok, strOf_size]] at hF ⊢; simp only [if_true, if_false, Bool.false_eq_true] at hF ⊢
    replace hM := hM.mono hI29
    replace hS1 := hS1.mono hI29
    replace h28 := h28.mono hI29
    replace hle := hle.trans hI29
    refine ⟨_, rfl, ?_⟩
    refine RW.op1 rfl (runs_move rfl) ?_
    refine RW.op1 rfl (runs_extract rfl rfl) ?_
    refine RW.op1 rfl (runs_extract rfl rfl) ?_
    refine RW.op1 rfl (runs_assign rfl) ?_
    refine RW.op1 rfl (runs_assign rfl) ?_
    refine RW.done ?_
    refine AQ.next ?_
    refine CW.seq ?_
    -- region 18
    refine CW.region ?_
    refine RW.opE rfl (runs_makeSlice (n := 256) Try.underlying26 ti5 rfl hst (by omega) (by unfold maxLen; omega)) ?_
    rintro _ w ⟨b127, rfl, hstn⟩
    clear hst
    have hst := hstn
    clear hstn
    rw [made_b8] at hst
    obtain ⟨I127, hI127, hstn, hS2⟩ := RdB.of_block (n := 256) (by simp) hst (by unfold maxLen; omega)
    clear hst
    have hst := hstn
    clear hstn
    replace hM := hM.mono hI127
    replace hle := hle.trans hI127
    refine RW.op1 rfl (RdB.string Try.underlying26 Try.underlying5 Try.underlying9 rfl (by assumption) hst) ?_
    refine RW.op1 rfl (runs_makeIface con9 rfl) ?_
    refine RW.opE rfl (runs_lit1R Try.underlying23 ti20 (by decide) rfl rfl rfl (by simp [Value.oneCell']) hst) ?_
    rintro u31 w ⟨I31, hI31, hstn, h31⟩
    clear hst
    have hst := hstn
    clear hstn
    replace hM := hM.mono hI31
    replace hS2 := hS2.mono hI31
    replace hle := hle.trans hI31
    refine RW.call rfl call10 rfl rfl (enc_spec (av := [.txt (strOf (List.replicate 256 0))]) (m := 256) (o := false) hst (by assumption) (fun a ha => by rw [List.mem_singleton.1 ha]; show (strOf _).size ≤ 256; rw [strOf_size]; decide) (by decide)) ?_
    rintro e w ⟨I32, vG, hI32, rfl, hstn, hG⟩
    clear hst
    have hst := hstn
    clear hstn
    rw [show encOk [.txt (strOf (List.replicate 256 0))] = false by simp [encOk, enc1Ok, strOf_size]] at hG ⊢; simp only [if_true, if_false, Bool.false_eq_true] at hG ⊢
    replace hM := hM.mono hI32
    replace hS2 := hS2.mono hI32
    replace h31 := h31.mono hI32
    replace hle := hle.trans hI32
    refine ⟨_, rfl, ?_⟩
    refine RW.op1 rfl (runs_move rfl) ?_
    refine RW.op1 rfl (runs_extract rfl rfl) ?_
    refine RW.op1 rfl (runs_extract rfl rfl) ?_
    refine RW.op1 rfl (runs_assign rfl) ?_
    refine RW.op1 rfl (runs_assign rfl) ?_
    refine RW.done ?_
    refine AQ.next ?_
    refine CW.seq ?_
    -- region 19
    refine CW.region ?_
    refine RW.op1 rfl (runs_makeIface con3 rfl) ?_
    refine RW.opE rfl (runs_lit1R Try.underlying23 ti20 (by decide) rfl rfl rfl (by simp [Value.oneCell']) hst) ?_
    rintro u33 w ⟨I33, hI33, hstn, h33⟩
    clear hst
    have hst := hstn
    clear hstn
    replace hM := hM.mono hI33
    replace hle := hle.trans hI33
    refine RW.call rfl call10 rfl rfl (enc_spec (av := [.num 1, .oth .nilIface]) (m := 255) (o := true) hst (by assumption) (by intro a ha; simp only [List.mem_cons, List.not_mem_nil, or_false] at ha; rcases ha with rfl | rfl; all_goals first | exact ⟨rfl, rfl⟩ | (show i64ok _; unfold i64ok; omega)) (by decide)) ?_
    rintro e w ⟨I34, vH, hI34, rfl, hstn, hH⟩
    clear hst
    have hst := hstn
    clear hstn
    rw [show encOk [.num 1, .oth .nilIface] = false from rfl] at hH ⊢; simp only [if_true, if_false, Bool.false_eq_true] at hH ⊢
    replace hM := hM.mono hI34
    replace h33 := h33.mono hI34
    replace hle := hle.trans hI34
    refine ⟨_, rfl, ?_⟩
    refine RW.op1 rfl (runs_move rfl) ?_
    refine RW.op1 rfl (runs_extract rfl rfl) ?_
    refine RW.op1 rfl (runs_extract rfl rfl) ?_
    refine RW.op1 rfl (runs_assign rfl) ?_
    refine RW.op1 rfl (runs_assign rfl) ?_
    refine RW.done ?_
    refine AQ.next ?_
    refine CW.seq ?_
    -- region 20
    refine CW.region ?_
    refine RW.op1 rfl (runs_makeIface con46 rfl) ?_
    refine RW.opE rfl (runs_lit1R Try.underlying23 ti20 (by decide) rfl rfl rfl (by simp [Value.oneCell']) hst) ?_
    rintro u35 w ⟨I35, hI35, hstn, h35⟩
    clear hst
    have hst := hstn
    clear hstn
    replace hM := hM.mono hI35
    replace hle := hle.trans hI35
    refine RW.call rfl call10 rfl rfl (enc_spec (av := [.oth (.iface 46 (.int .u64 1))]) (m := 255) (o := true) hst (by assumption) (fun a ha => by rw [List.mem_singleton.1 ha]; exact ⟨rfl, rfl⟩) (by decide)) ?_
    rintro e w ⟨I36, vK, hI36, rfl, hstn, hK⟩
    clear hst
    have hst := hstn
    clear hstn
    rw [show encOk [.oth (.iface 46 (.int .u64 1))] = false from rfl] at hK ⊢; simp only [if_true, if_false, Bool.false_eq_true] at hK ⊢
    replace hM := hM.mono hI36
    replace h35 := h35.mono hI36
    replace hle := hle.trans hI36
    refine ⟨_, rfl, ?_⟩
    refine RW.op1 rfl (runs_move rfl) ?_
    refine RW.op1 rfl (runs_extract rfl rfl) ?_
    refine RW.op1 rfl (runs_extract rfl rfl) ?_
    refine RW.op1 rfl (runs_assign rfl) ?_
    refine RW.op1 rfl (runs_assign rfl) ?_
    refine RW.done ?_
    refine AQ.next ?_
    refine CW.seq ?_
    -- region 21
    refine CW.region ?_
    refine RW.op1 rfl (runs_move rfl) ?_
    refine RW.op1 rfl (runs_eqI rfl rfl) ?_
    refine RW.op1 rfl (runs_move rfl) ?_
    have hk148 := (show decide ((2 : Int) = 2) = true from by decide)
    refine RW.on_guard rfl rfl rfl rfl hk148 ?_
    refine RW.op1 rfl (runs_move rfl) ?_
    refine RW.on_guard rfl rfl rfl rfl hk148 ?_
    refine RW.op1 rfl (RdL.len Try.underlying23 rfl hM) ?_
    refine RW.on_guard rfl rfl rfl rfl hk148 ?_
    refine RW.op1 rfl (runs_eqI rfl rfl) ?_
    refine RW.op1 rfl (runs_pick_true rfl hk148 rfl) ?_
    refine RW.op1 rfl (runs_move rfl) ?_
    have hk153 := (show decide (((0 : Nat) : Int) = 0) = true from by decide)
    refine RW.on_guard rfl rfl rfl rfl hk153 ?_
    refine RW.op1 rfl (runs_move rfl) ?_
    refine RW.on_guard rfl rfl rfl rfl hk153 ?_
    refine RW.op1 rfl (runs_eqI rfl rfl) ?_
    refine RW.op1 rfl (runs_pick_true rfl hk153 rfl) ?_
    refine RW.op1 rfl (runs_move rfl) ?_
    have hk157 := (show decide ((0 : Int) = 0) = true from by decide)
    refine RW.on_guard rfl rfl rfl rfl hk157 ?_
    refine RW.op1 rfl (runs_move rfl) ?_
    refine RW.on_guard rfl rfl rfl rfl hk157 ?_
    refine RW.op1 rfl (runs_eqI rfl rfl) ?_
    refine RW.op1 rfl (runs_pick_true rfl hk157 rfl) ?_
    refine RW.op1 rfl (runs_move rfl) ?_
    have hk161 := (show decide ((1 : Int) = 1) = true from by decide)
    refine RW.on_guard rfl rfl rfl rfl hk161 ?_
    refine RW.op1 rfl (runs_move rfl) ?_
    refine RW.on_guard rfl rfl rfl rfl hk161 ?_
    refine RW.op1 rfl (runs_eqI rfl rfl) ?_
    refine RW.op1 rfl (runs_pick_true rfl hk161 rfl) ?_
    refine RW.op1 rfl (runs_move rfl) ?_
    have hk165 := (show decide ((1 : Int) = 1) = true from by decide)
    refine RW.on_guard rfl rfl rfl rfl hk165 ?_
    refine RW.op1 rfl (runs_move rfl) ?_
    refine RW.on_guard rfl rfl rfl rfl hk165 ?_
    refine RW.op1 rfl (runs_eqI rfl rfl) ?_
    refine RW.op1 rfl (runs_pick_true rfl hk165 rfl) ?_
    refine RW.op1 rfl (runs_move rfl) ?_
    have hk169 := (show decide ((1 : Int) = 1) = true from by decide)
    refine RW.on_guard rfl rfl rfl rfl hk169 ?_
    refine RW.call rfl call13 rfl rfl (wakes_spec hst) ?_
    rintro e w ⟨rfl, I37, hI37, hstn⟩
    clear hst
    have hst := hstn
    clear hstn
    replace hM := hM.mono hI37
    replace h35 := h35.mono hI37
    replace hK := hK.mono hI37
    replace hle := hle.trans hI37
    refine ⟨_, rfl, ?_⟩
    refine RW.op1 rfl (runs_pick_true rfl hk169 rfl) ?_
    refine RW.op1 rfl (runs_assign rfl) ?_
    refine RW.done ?_
    refine AQ.next ?_
    refine CW.ret ?_
    refine AQ.ret1 rfl rfl ?_
    exact ⟨rfl, _, hle0.trans hle, hst⟩
end Go.Proofs.YtoegloebnnjflaaX
