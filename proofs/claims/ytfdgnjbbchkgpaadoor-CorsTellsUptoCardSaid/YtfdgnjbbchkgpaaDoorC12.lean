/- The document's answer: who may ask further: what it comes to. -/
import Derived.Test.YtfdgnjbbchkgpaaDoorT
import Derived.Test.YtfdgnjbbchkgpaaDoorC11
import Derived.Test.YtfdgnjbbchkgpaaDoorXZ
import Derived.Test.YtfdgnjbbchkgpaaDoorXN
namespace Go.Proofs.YtfdgnjbbchkgpaaDoorX
set_option linter.unusedVariables false
set_option linter.unusedSimpArgs false
open Go Go.RowKit Go.Proofs

theorem nm_mem {ls : List (List UInt8)} {U : List (List UInt8)} {i : Nat} {nm : List UInt8} (hmem : ∀ x, x ∈ ls ↔ x ∈ U) : ∀ x, x ∈ ls.take i ++ nm :: ls.drop i ↔ x ∈ U ++ [nm] := by
  intro x
  have h : x ∈ ls ↔ x ∈ ls.take i ∨ x ∈ ls.drop i := by rw [← List.mem_append, List.take_append_drop]
  rw [List.mem_append, List.mem_cons, List.mem_append, List.mem_singleton, ← hmem, h]
  constructor
  · rintro (h | h | h)
    · exact .inl (.inl h)
    · exact .inr h
    · exact .inl (.inr h)
  · rintro ((h | h) | h)
    · exact .inl h
    · exact .inr (.inr h)
    · exact .inr (.inl h)
theorem slicedH {A : Option Addr} {i : Nat} : sliced A 0 i i 1 = .slice (if i = 0 then A else A.map (·.add (0 * 1))) i i := rfl
theorem RdL.cap {I : Imm} {A : Option Addr} {n c : Nat} {size : Nat} {xs : List Value} (h : RdL I size (.slice A n c) n xs) : n ≤ c := by
  obtain ⟨_, _, A2, c2, e, hle, _⟩ := h
  cases e
  exact hle
theorem Grow.src0 {e : TypeId} {size n : Nat} {v : Value} {xs : List Value} {Lv : Own} (hg : Grow e size v n xs Lv) : ∃ A c, v = .slice A n c ∧ (A = none → c = 0) := by
  obtain ⟨_, _, ⟨rfl, rfl, _⟩ | ⟨g, cap, cur, rfl, _⟩⟩ := hg
  · exact ⟨none, 0, rfl, fun _ => rfl⟩
  · exact ⟨_, cap, rfl, fun h => by cases h⟩
set_option maxRecDepth 100000 in
set_option maxHeartbeats 1000000 in
theorem refUnsafe_spec {w0 w : World} {I : Imm} {L : Own} (hst : St w0 w I L) {vh : Value} {hs : List HRow} (hv : RdH I vh hs) (hok : HB hs) :
    Calls Tryd.prog 34 #[vh] w fun e w' => ∃ (I' : Imm) (v : Value) (ls : List (List UInt8)), Imm.le I I' ∧ e = .returned v ∧ RdS I' v (ls.map strOf) ∧ (∀ x, x ∈ ls ↔ x ∈ unsafeL hs) ∧ ls.length ≤ 1000000 ∧ St w0 w' I' L := by
  obtain ⟨hA, hcap, rfl⟩ : ∃ A c, vh = .slice A hs.length c := by obtain ⟨_, _, A, c, e, _⟩ := hv; exact ⟨A, c, e⟩
  have hhl := hok.1
  refine enter Tryd.func34 rfl (N := 58) rfl rfl ?_
  simp only [List.zipIdx_cons, List.zipIdx_nil, List.map_cons, List.map_nil, Nat.zero_add, Nat.reduceAdd]
  have hle := Imm.le.refl I
  refine CW.seq ?_
  -- region 0
  refine CW.region ?_
  refine RW.op1 rfl (runs_assign rfl) ?_
  refine RW.done ?_
  refine AQ.next ?_
  refine CW.seq ?_
  -- region 1
  refine CW.region ?_
  refine RW.op1 rfl (runs_assign rfl) ?_
  refine RW.done ?_
  refine AQ.next ?_
  refine CW.seq ?_
  refine CW.seq ?_
  -- region 2
  refine CW.region ?_
  refine RW.op1 rfl (runs_move rfl) ?_
  refine RW.op1 rfl (RdL.len Tryd.underlying31 rfl hv) ?_
  refine RW.op1 rfl (runs_move rfl) ?_
  refine RW.done ?_
  refine AQ.next ?_
  refine CW.block ?_
  -- loop 1
  refine CW.loop (Nat × Imm × Option Addr × Nat × List (List UInt8)) (fun x w => I.le x.2.1 ∧ RdH x.2.1 (.slice hA hs.length hcap) hs ∧ RdL x.2.1 1 (.slice x.2.2.1 x.2.2.2.2.length x.2.2.2.1) x.2.2.2.2.length ((x.2.2.2.2.map strOf).map Value.string) ∧ (x.2.2.1 = none → x.2.2.2.1 = 0) ∧ St w0 w x.2.1 L ∧ x.1 ≤ hs.length ∧ x.2.2.2.2.length ≤ x.1 ∧ ∀ y, y ∈ x.2.2.2.2 ↔ y ∈ unsafeL (hs.take x.1)) (fun x => [(3, .slice x.2.2.1 x.2.2.2.2.length x.2.2.2.1), (8, .slice hA hs.length hcap), (9, .int .i64 (hs.length : Nat)), (10, .int .i64 (x.1 : Int))]) (fun x => hs.length - x.1) ⟨(0, _, none, 0, []), ⟨hle, hv, RdL.nil 1, fun _ => rfl, hst, Nat.zero_le _, Nat.zero_le _, fun y => Iff.rfl⟩, ⟨rfl, rfl, rfl, rfl, trivial⟩⟩ ?_
  clear hle hv
  rintro ⟨k, I2, A, c, ls⟩ w ⟨hle, hv, hl, hA0, hstn, hk, hlk, hmem⟩
  dsimp only at hle hv hl hA0 hstn hk hlk hmem ⊢
  clear hst
  have hst := hstn
  clear hstn
  refine CW.seq ?_
  -- region 3
  refine CW.region ?_
  refine RW.op1 rfl (runs_lss rfl rfl) ?_
  refine RW.done ?_
  refine AQ.next ?_
  refine CW.seq ?_
  refine CW.cond rfl (fun hc11 => ?_) (fun hc11 => ?_)
  · have hcb11 := hc11
    try simp only [decide_eq_true_eq, decide_eq_false_iff_not] at hc11
    have hk1 : k < hs.length := by omega
    obtain ⟨⟨n, d⟩, hr⟩ : ∃ r, hs[k] = r := ⟨_, rfl⟩
    have hr2 : hs[k]? = some (n, d) := by rw [List.getElem?_eq_getElem hk1, hr]
    have hsn := hok.2 (n, d) (List.mem_of_getElem? hr2)
    dsimp only at hsn
    have htk := unsafe_take hr2
    refine CW.skip ?_
    refine AQ.next ?_
    refine CW.seq ?_
    refine CW.block ?_
    refine CW.seq ?_
    -- region 4
    refine CW.region ?_
    refine RW.op1 rfl (RdL.indexAddr Tryd.underlying31 ti30 (by decide) rfl rfl hv (by omega)) ?_
    refine RW.op1 rfl (RdL.loadRow (row := hrow (n, d)) ag30 ti30 rfl hv hst rfl (hrow_at hr2)) ?_
    refine RW.opE rfl (runs_alloc ti30 hst) ?_
    rintro _ w ⟨b1, rfl, hstn⟩
    clear hst
    have hst := hstn
    clear hstn
    first
      | refine RW.opE0 (runs_storeW ti30 rfl rfl hst (k := 0) rfl rfl rfl (NoFz.zero _) rfl) ?_
      | refine RW.opE0 (runs_storeP ti30 rfl rfl hst (k := 0) rfl rfl rfl (NoFz.zero _) rfl) ?_
      | refine RW.opE0 (runs_storeW ti30 rfl rfl hst (k := 1) rfl rfl rfl (NoFz.zero _) rfl) ?_
      | refine RW.opE0 (runs_storeP ti30 rfl rfl hst (k := 1) rfl rfl rfl (NoFz.zero _) rfl) ?_
      | refine RW.opE0 (runs_storeW ti30 rfl rfl hst (k := 2) rfl rfl rfl (NoFz.zero _) rfl) ?_
      | refine RW.opE0 (runs_storeP ti30 rfl rfl hst (k := 2) rfl rfl rfl (NoFz.zero _) rfl) ?_
    rintro w hstn
    clear hst
    have hst := hstn
    clear hstn
    try simp only [List.set_cons_zero, List.set_cons_succ] at hst
    refine RW.done ?_
    refine AQ.next ?_
    refine CW.seq ?_
    refine CW.seq ?_
    -- region 5
    refine CW.region ?_
    first
      | refine RW.op1 rfl (runs_loadN (vs := [_, _]) ag30 ti30 rfl hst (k := 0) rfl rfl rfl) ?_
      | refine RW.op1 rfl (runs_loadN (vs := [_, _]) ag30 ti30 rfl hst (k := 1) rfl rfl rfl) ?_
      | refine RW.op1 rfl (runs_loadN (vs := [_, _]) ag30 ti30 rfl hst (k := 2) rfl rfl rfl) ?_
    refine RW.call rfl call45 rfl rfl (refSimple_spec hst n d hsn.1 hsn.2) ?_
    rintro e w ⟨I3, hI3, rfl, hstn⟩
    clear hst
    have hst := hstn
    clear hstn
    have hsr : simpleR (n, d) = simpleL n.toList d.toList := rfl
    obtain ⟨sm, hsm⟩ : ∃ b, simpleL n.toList d.toList = b := ⟨_, rfl⟩
    rw [hsm] at hsr ⊢
    rw [hsr] at htk
    replace hv := hv.mono hI3
    replace hl := hl.mono hI3
    replace hle := hle.trans hI3
    refine ⟨_, rfl, ?_⟩
    refine RW.done ?_
    refine AQ.next ?_
    refine CW.cond rfl (fun hc15 => ?_) (fun hc15 => ?_)
    · have hcb15 := hc15
      try simp only [decide_eq_true_eq, decide_eq_false_iff_not] at hc15
      have h15 : sm = true := by simpa using hcb15
      rw [h15, if_pos rfl, List.append_nil] at htk
      refine CW.exit ?_
      refine AQ.past_exit ?_
      refine AQ.block_hit ?_
      refine AQ.next ?_
      -- region 12
      refine CW.region ?_
      refine RW.op1 rfl (runs_add rfl rfl (by omega)) ?_
      refine RW.op1 rfl (runs_move rfl) ?_
      refine RW.done ?_
      exact AQ.again (x := (k, I2, A, c, ls)) (k + 1, _, A, c, ls) ⟨hle, hv, hl, hA0, hst.drop1, by dsimp only; omega, by dsimp only; omega, by dsimp only; rw [htk]; exact hmem⟩ ⟨rfl, rfl, rfl, rfl, trivial⟩ (by dsimp only; omega)
    · have hcb15 := hc15
      try simp only [decide_eq_true_eq, decide_eq_false_iff_not] at hc15
      have h15 : sm = false := by simpa using hcb15
      rw [h15, if_neg (by decide)] at htk
      refine CW.skip ?_
      refine AQ.next ?_
      refine CW.seq ?_
      -- region 6
      refine CW.region ?_
      first
        | refine RW.op1 rfl (runs_fieldAddr0 rfl Tryd.underlying30 rfl ti9 (by decide)) ?_
        | refine RW.op1 rfl (runs_fieldAddr rfl Tryd.underlying30 rfl ti9 (by decide)) ?_
      first
        | refine RW.op1 rfl (runs_load1 sc9 rfl (hst.cell_own (k := 0) rfl rfl)) ?_
        | refine RW.op1 rfl (runs_load1 sc9 rfl (hst.cell_own (k := 1) rfl rfl)) ?_
        | refine RW.op1 rfl (runs_load1 sc9 rfl (hst.cell_own (k := 2) rfl rfl)) ?_
      refine RW.call rfl call37 rfl rfl (refLower_spec hst n (by omega)) ?_
      rintro e w ⟨I4, hI4, rfl, hstn⟩
      clear hst
      have hst := hstn
      clear hstn
      obtain ⟨nm, hnm⟩ : ∃ q, lower n.toList = q := ⟨_, rfl⟩
      dsimp only at htk
      rw [hnm] at htk ⊢
      replace hv := hv.mono hI4
      replace hl := hl.mono hI4
      replace hle := hle.trans hI4
      refine ⟨_, rfl, ?_⟩
      refine RW.op1 rfl (runs_assign rfl) ?_
      refine RW.done ?_
      refine AQ.next ?_
      refine CW.seq ?_
      -- region 7
      refine CW.region ?_
      refine RW.op1 rfl (runs_assign rfl) ?_
      refine RW.done ?_
      refine AQ.next ?_
      refine CW.seq ?_
      refine CW.block ?_
      -- loop 2
      obtain ⟨o1, ho1⟩ : ∃ o, St w0 w I4 ((b1, o) :: L) := ⟨_, hst⟩
      clear hst
      have hlen : ((ls.map strOf).map Value.string).length = ls.length := by simp
      refine CW.loop Nat (fun i w => St w0 w I4 ((b1, o1) :: L) ∧ i ≤ ls.length) (fun i => [(3, .slice A ls.length c), (8, .slice hA hs.length hcap), (9, .int .i64 (hs.length : Nat)), (10, .int .i64 (k : Int)), (6, .string (strOf nm)), (7, .int .i64 (i : Int))]) (fun i => ls.length - i) ⟨0, ⟨ho1, Nat.zero_le _⟩, ⟨rfl, rfl, rfl, rfl, rfl, rfl, trivial⟩⟩ ?_
      clear ho1
      rintro i w ⟨hstn, hi⟩
      have hst := hstn
      clear hstn
      refine CW.seq ?_
      refine CW.seq ?_
      -- region 8
      refine CW.cut Bool (fun b w => St w0 w I4 ((b1, o1) :: L) ∧ (b = true → i < ls.length)) (fun b => [(3, .slice A ls.length c), (8, .slice hA hs.length hcap), (9, .int .i64 (hs.length : Nat)), (10, .int .i64 (k : Int)), (6, .string (strOf nm)), (7, .int .i64 (i : Int)), (30, .bool b)]) ?_ ?_
      · -- region 8
        refine CW.region ?_
        refine RW.op1 rfl (runs_move rfl) ?_
        refine RW.op1 rfl (runs_move rfl) ?_
        refine RW.op1 rfl (runs_lenL Tryd.underlying23 rfl) ?_
        refine RW.op1 rfl (runs_lss rfl rfl) ?_
        refine RW.op1 rfl (runs_move rfl) ?_
        refine RW.split (t := 23) rfl (fun hb23 => ?_) (fun hb23 => ?_)
        · have hb23p := hb23
          try simp only [decide_eq_true_eq, decide_eq_false_iff_not] at hb23p
          refine RW.on_guard rfl rfl rfl rfl hb23 ?_
          refine RW.op1 rfl (runs_move rfl) ?_
          refine RW.on_guard rfl rfl rfl rfl hb23 ?_
          refine RW.op1 rfl (runs_move rfl) ?_
          refine RW.on_guard rfl rfl rfl rfl hb23 ?_
          refine RW.op1 rfl (RdL.indexAddr Tryd.underlying23 ti9 (by decide) rfl rfl hl (by omega)) ?_
          refine RW.on_guard rfl rfl rfl rfl hb23 ?_
          obtain ⟨q, hq⟩ : ∃ q, ls[i]? = some q := ⟨_, List.getElem?_eq_getElem (by omega)⟩
          refine RW.op1 rfl (runs_load1 sc9 rfl (hst.cell_imm (RdL.cell hl (k := ((i : Int)).toNat * 1) (u := .string (strOf q)) (by simp [hq])))) ?_
          refine RW.on_guard rfl rfl rfl rfl hb23 ?_
          refine RW.op1 rfl (runs_move rfl) ?_
          refine RW.on_guard rfl rfl rfl rfl hb23 ?_
          refine RW.op1 rfl (runs_lssS rfl rfl) ?_
          refine RW.op1 rfl (runs_pick_true rfl hb23 rfl) ?_
          refine RW.done ?_
          first
            | exact AQ.meet (_ : Bool) ⟨hst, fun _ => by omega⟩ ⟨rfl, rfl, rfl, rfl, rfl, rfl, rfl, trivial⟩
            | exact AQ.meet false ⟨hst, fun h => by cases h⟩ ⟨rfl, rfl, rfl, rfl, rfl, rfl, rfl, trivial⟩
        · have hb23p := hb23
          try simp only [decide_eq_true_eq, decide_eq_false_iff_not] at hb23p
          refine RW.off_guard rfl rfl rfl rfl hb23 ?_
          refine RW.off_guard rfl rfl rfl rfl hb23 ?_
          refine RW.off_guard rfl rfl rfl rfl hb23 ?_
          refine RW.off_guard rfl rfl rfl rfl hb23 ?_
          refine RW.off_guard rfl rfl rfl rfl hb23 ?_
          refine RW.off_guard rfl rfl rfl rfl hb23 ?_
          refine RW.op1 rfl (runs_pick_false rfl hb23 rfl) ?_
          refine RW.done ?_
          first
            | exact AQ.meet (_ : Bool) ⟨hst, fun _ => by omega⟩ ⟨rfl, rfl, rfl, rfl, rfl, rfl, rfl, trivial⟩
            | exact AQ.meet false ⟨hst, fun h => by cases h⟩ ⟨rfl, rfl, rfl, rfl, rfl, rfl, rfl, trivial⟩
      · rintro b w ⟨hstn, hb⟩
        clear hst
        have hst := hstn
        clear hstn
        refine AQ.next ?_
        refine CW.cond rfl (fun hc30 => ?_) (fun hc30 => ?_)
        · have hcb30 := hc30
          try simp only [decide_eq_true_eq, decide_eq_false_iff_not] at hc30
          have h30 : i < ls.length := hb hcb30
          refine CW.skip ?_
          refine AQ.next ?_
          refine CW.block ?_
          -- region 9
          refine CW.region ?_
          refine RW.op1 rfl (runs_move rfl) ?_
          refine RW.op1 rfl (runs_add rfl rfl (by omega)) ?_
          refine RW.op1 rfl (runs_assign rfl) ?_
          refine RW.done ?_
          refine AQ.block_normal ?_
          exact AQ.again (x := i) (i + 1) ⟨hst, by omega⟩ ⟨rfl, rfl, rfl, rfl, rfl, rfl, trivial⟩ (by omega)
        · have hcb30 := hc30
          try simp only [decide_eq_true_eq, decide_eq_false_iff_not] at hc30
          skip
          refine CW.exit ?_
          refine AQ.past_exit ?_
          refine AQ.past_exit ?_
          refine AQ.block_hit ?_
          refine AQ.next ?_
          refine CW.seq ?_
          refine CW.seq ?_
          -- region 10
          refine CW.cut Bool (fun b w => St w0 w I4 ((b1, o1) :: L) ∧ (b = true → nm ∈ ls)) (fun b => [(3, .slice A ls.length c), (8, .slice hA hs.length hcap), (9, .int .i64 (hs.length : Nat)), (10, .int .i64 (k : Int)), (6, .string (strOf nm)), (7, .int .i64 (i : Int)), (44, .bool b)]) ?_ ?_
          · -- region 10
            refine CW.region ?_
            refine RW.op1 rfl (runs_move rfl) ?_
            refine RW.op1 rfl (runs_move rfl) ?_
            refine RW.op1 rfl (runs_lenL Tryd.underlying23 rfl) ?_
            refine RW.op1 rfl (runs_lss rfl rfl) ?_
            refine RW.op1 rfl (runs_move rfl) ?_
            refine RW.split (t := 37) rfl (fun hb37 => ?_) (fun hb37 => ?_)
            · have hb37p := hb37
              try simp only [decide_eq_true_eq, decide_eq_false_iff_not] at hb37p
              refine RW.on_guard rfl rfl rfl rfl hb37 ?_
              refine RW.op1 rfl (runs_move rfl) ?_
              refine RW.on_guard rfl rfl rfl rfl hb37 ?_
              refine RW.op1 rfl (runs_move rfl) ?_
              refine RW.on_guard rfl rfl rfl rfl hb37 ?_
              refine RW.op1 rfl (RdL.indexAddr Tryd.underlying23 ti9 (by decide) rfl rfl hl (by omega)) ?_
              refine RW.on_guard rfl rfl rfl rfl hb37 ?_
              obtain ⟨q, hq⟩ : ∃ q, ls[i]? = some q := ⟨_, List.getElem?_eq_getElem (by omega)⟩
              refine RW.op1 rfl (runs_load1 sc9 rfl (hst.cell_imm (RdL.cell hl (k := ((i : Int)).toNat * 1) (u := .string (strOf q)) (by simp [hq])))) ?_
              refine RW.on_guard rfl rfl rfl rfl hb37 ?_
              refine RW.op1 rfl (runs_move rfl) ?_
              refine RW.on_guard rfl rfl rfl rfl hb37 ?_
              refine RW.op1 rfl (runs_eqS rfl rfl) ?_
              refine RW.op1 rfl (runs_pick_true rfl hb37 rfl) ?_
              refine RW.done ?_
              first
                | exact AQ.meet (_ : Bool) ⟨hst, fun h => by
                    simp only [strOf_toList, beq_iff_eq, decide_eq_true_eq] at h
                    rw [← h]
                    exact List.mem_of_getElem? hq⟩ ⟨rfl, rfl, rfl, rfl, rfl, rfl, rfl, trivial⟩
                | exact AQ.meet false ⟨hst, fun h => by cases h⟩ ⟨rfl, rfl, rfl, rfl, rfl, rfl, rfl, trivial⟩
            · have hb37p := hb37
              try simp only [decide_eq_true_eq, decide_eq_false_iff_not] at hb37p
              refine RW.off_guard rfl rfl rfl rfl hb37 ?_
              refine RW.off_guard rfl rfl rfl rfl hb37 ?_
              refine RW.off_guard rfl rfl rfl rfl hb37 ?_
              refine RW.off_guard rfl rfl rfl rfl hb37 ?_
              refine RW.off_guard rfl rfl rfl rfl hb37 ?_
              refine RW.off_guard rfl rfl rfl rfl hb37 ?_
              refine RW.op1 rfl (runs_pick_false rfl hb37 rfl) ?_
              refine RW.done ?_
              first
                | exact AQ.meet (_ : Bool) ⟨hst, fun h => by
                    simp only [strOf_toList, beq_iff_eq, decide_eq_true_eq] at h
                    rw [← h]
                    exact List.mem_of_getElem? hq⟩ ⟨rfl, rfl, rfl, rfl, rfl, rfl, rfl, trivial⟩
                | exact AQ.meet false ⟨hst, fun h => by cases h⟩ ⟨rfl, rfl, rfl, rfl, rfl, rfl, rfl, trivial⟩
          · rintro b w ⟨hstn, hb⟩
            clear hst
            have hst := hstn
            clear hstn
            refine AQ.next ?_
            refine CW.cond rfl (fun hc44 => ?_) (fun hc44 => ?_)
            · have hcb44 := hc44
              try simp only [decide_eq_true_eq, decide_eq_false_iff_not] at hc44
              have h44 : nm ∈ ls := hb hcb44
              refine CW.exit ?_
              refine AQ.past_exit ?_
              refine AQ.block_hit ?_
              refine AQ.next ?_
              -- region 12
              refine CW.region ?_
              refine RW.op1 rfl (runs_add rfl rfl (by omega)) ?_
              refine RW.op1 rfl (runs_move rfl) ?_
              refine RW.done ?_
              exact AQ.again (x := (k, I2, A, c, ls)) (k + 1, _, A, c, ls) ⟨hle, hv, hl, hA0, hst.drop1, by dsimp only; omega, by dsimp only; omega, by
                dsimp only
                rw [htk]
                intro y
                rw [List.mem_append, List.mem_singleton, hmem y]
                exact ⟨.inl, fun h => h.elim id fun h => by rw [h, ← hmem]; exact h44⟩⟩ ⟨rfl, rfl, rfl, rfl, trivial⟩ (by dsimp only; omega)
            · have hcb44 := hc44
              try simp only [decide_eq_true_eq, decide_eq_false_iff_not] at hc44
              skip
              refine CW.skip ?_
              refine AQ.next ?_
              -- region 11
              refine CW.drawSt hst (.q 0 (.q 1 (.q 2 (.q 3 (.q 4 (.q 6 (.q 7 (.q 8 (.l 5 (.l 9 (.l 10 (.q 11 .nil)))))))))))) follows (by kernel_rfl) (fun w hst => ?_)
              refine DRW.q rfl rfl (fun w' hF => runs_move rfl) ?_
              refine DRW.q rfl rfl (fun w' hF => runs_move rfl) ?_
              refine DRW.q rfl rfl (fun w' hF => runs_move rfl) ?_
              refine DRW.q rfl rfl (fun w' hF => runs_slice_hm Tryd.underlying23 ti9 rfl rfl rfl (by have := RdL.cap hl; omega)) ?_
              refine DRW.q rfl rfl (fun w' hF => runs_move rfl) ?_
              refine DRW.q rfl rfl (fun w' hF => runs_move rfl) ?_
              refine DRW.q rfl rfl (fun w' hF => runs_move rfl) ?_
              refine DRW.q rfl rfl (fun w' hF => runs_slice_l Tryd.underlying23 ti9 rfl rfl (by omega)) ?_
              refine DRW.opE rfl rfl (runs_lit1 (xs := [Value.string (strOf nm)]) Tryd.underlying23 ti9 (by decide) rfl rfl rfl (by simp [Value.oneCell']) hst) ?_
              rintro u5 w ⟨Lv5, hstn, hg5⟩
              clear hst
              have hst := hstn
              clear hstn
              refine ⟨FSt.of hst (Imm.le.refl _) (by first | exact (List.sublist_cons_self _ _).trans (List.sublist_append_right _ _) | exact List.Sublist.refl _ | exact List.sublist_cons_self _ _ | exact List.sublist_append_right _ _ | exact (List.sublist_cons_self _ _).trans (List.sublist_cons_self _ _) | exact (List.sublist_append_right _ _).trans (List.sublist_cons_self _ _) | simp), ?_⟩
              have hp1 := RdL.part hl (lo := i) (hi := ls.length) hi (Nat.le_refl _)
              have hp0 := RdL.head hl hi
              have hgA := hg5
              refine DRW.opE rfl rfl (runs_appendR Tryd.underlying23 ti9 rfl (by decide) rfl rfl hst hgA hp1 (by omega) (by unfold maxLen; omega)) ?_
              rintro u6 w ⟨Lv6, hstn, hg6⟩
              clear hst
              have hst := hstn
              clear hstn
              refine ⟨FSt.of hst (Imm.le.refl _) (by first | exact (List.sublist_cons_self _ _).trans (List.sublist_append_right _ _) | exact List.Sublist.refl _ | exact List.sublist_cons_self _ _ | exact List.sublist_append_right _ _ | exact (List.sublist_cons_self _ _).trans (List.sublist_cons_self _ _) | exact (List.sublist_append_right _ _).trans (List.sublist_cons_self _ _) | simp), ?_⟩
              obtain ⟨J6, hJ6, hstn, h6⟩ := Grow.freeze hg6 hst
              clear hst
              have hst := hstn
              clear hstn
              replace hv := hv.mono hJ6
              replace hl := hl.mono hJ6
              replace hp0 := hp0.mono hJ6
              replace hle := hle.trans hJ6
              try simp only [List.nil_append] at h6
              skip
              have hD := h6
              refine DRW.opE rfl rfl (runs_appendRF Tryd.underlying23 ti9 rfl (by decide) rfl rfl hst hp0 hD (by omega) (by
                intro h
                have hc := RdL.cap hl
                show i - 0 = 0
                rcases Nat.eq_zero_or_pos i with h0 | h0
                · omega
                · rw [if_neg (by show i ≠ 0; omega), Option.map_eq_none_iff] at h
                  have := hA0 h
                  omega) (by omega) (by unfold maxLen; omega)) ?_
              rintro u7 w ⟨Lv7, hstn, hg7⟩
              clear hst
              have hst := hstn
              clear hstn
              refine ⟨FSt.of hst hJ6 (by first | exact (List.sublist_cons_self _ _).trans (List.sublist_append_right _ _) | exact List.Sublist.refl _ | exact List.sublist_cons_self _ _ | exact List.sublist_append_right _ _ | exact (List.sublist_cons_self _ _).trans (List.sublist_cons_self _ _) | exact (List.sublist_append_right _ _).trans (List.sublist_cons_self _ _) | simp), ?_⟩
              have hn2 : i - 0 + (1 + (ls.length - i)) = (ls.take i ++ nm :: ls.drop i).length := by
                rw [List.length_append, List.length_cons, List.length_take, List.length_drop]
                omega
              have hn3 : (i : Int).toNat - 0 + (1 + (ls.length - i)) = (ls.take i ++ nm :: ls.drop i).length := hn2
              rw [hn3] at hg7
              obtain ⟨A2, c2, rfl, hA2⟩ := hg7.src0
              obtain ⟨J7, hJ7, hstn, h7⟩ := Grow.freeze hg7 hst
              clear hst
              have hst := hstn
              clear hstn
              replace hv := hv.mono hJ7
              replace hl := hl.mono hJ7
              replace hp0 := hp0.mono hJ7
              replace h6 := h6.mono hJ7
              replace hD := hD.mono hJ7
              replace hle := hle.trans hJ7
              try simp only [List.nil_append] at h7
              skip
              have hE := h7
              refine DRW.q rfl rfl (fun w' hF => runs_assign rfl) ?_
              refine DRW.done ?_
              refine AQ.block_normal ?_
              refine AQ.next ?_
              -- region 12
              refine CW.region ?_
              refine RW.op1 rfl (runs_add rfl rfl (by omega)) ?_
              refine RW.op1 rfl (runs_move rfl) ?_
              refine RW.done ?_
              exact AQ.again (x := (k, I2, A, c, ls)) (k + 1, _, A2, c2, ls.take i ++ nm :: ls.drop i) ⟨hle, hv, by
                dsimp only
                rw [show ((ls.take i ++ nm :: ls.drop i).map strOf).map Value.string = ((ls.map strOf).map Value.string).take i ++ ([Value.string (strOf nm)] ++ ((ls.map strOf).map Value.string).drop i) by simp [List.map_take, List.map_drop]]
                simpa [List.take_of_length_le, hlen] using hE, hA2, hst.drop1, by dsimp only; omega, by dsimp only; rw [← hn2]; omega, by
                dsimp only
                rw [htk]
                exact nm_mem hmem⟩ ⟨rfl, rfl, rfl, rfl, trivial⟩ (by dsimp only; omega)
  · have hcb11 := hc11
    try simp only [decide_eq_true_eq, decide_eq_false_iff_not] at hc11
    skip
    refine CW.exit ?_
    refine AQ.past_exit ?_
    refine AQ.past_exit ?_
    refine AQ.block_hit ?_
    refine AQ.next ?_
    refine CW.seq ?_
    -- region 13
    refine CW.region ?_
    refine RW.op1 rfl (runs_move rfl) ?_
    refine RW.op1 rfl (runs_assign rfl) ?_
    refine RW.done ?_
    refine AQ.next ?_
    refine CW.ret ?_
    refine AQ.ret1 rfl rfl ?_
    refine ⟨_, _, ls, hle, rfl, ?_, fun x => ?_, by omega, hst⟩
    · unfold RdS
      rw [List.length_map]
      exact hl
    · have := hmem x
      rwa [List.take_of_length_le (by omega)] at this
set_option maxRecDepth 100000 in
set_option maxHeartbeats 1000000 in
theorem refPlain_spec {w0 w : World} {I : Imm} {L : Own} (hst : St w0 w I L) {vl : Value} {l : List HRow} (hl : RdH I vl l) (hlk : HB l) (m : ByteArray) :
    Calls Tryd.prog 17 #[.string m, vl] w fun e w' => ∃ I', Imm.le I I' ∧ e = .returned (.bool (plainL m.toList l)) ∧ St w0 w' I' L := by
  refine enter Tryd.func17 rfl (N := 13) rfl rfl ?_
  simp only [List.zipIdx_cons, List.zipIdx_nil, List.map_cons, List.map_nil, Nat.zero_add, Nat.reduceAdd]
  have hle := Imm.le.refl I
  refine CW.seq ?_
  -- region 0
  refine CW.region ?_
  refine RW.op1 rfl (runs_assign rfl) ?_
  refine RW.done ?_
  refine AQ.next ?_
  refine CW.seq ?_
  -- region 1
  refine CW.region ?_
  refine RW.op1 rfl (runs_move rfl) ?_
  refine RW.call rfl call33 rfl rfl (plainMethod_spec hst m) ?_
  rintro e w ⟨rfl, hstn⟩
  clear hst
  have hst := hstn
  clear hstn
  refine ⟨_, rfl, ?_⟩
  refine RW.op1 rfl (runs_move rfl) ?_
  refine RW.split (t := 7) rfl (fun hb7 => ?_) (fun hb7 => ?_)
  · have hb7p := hb7
    try simp only [decide_eq_true_eq, decide_eq_false_iff_not] at hb7p
    refine RW.on_guard rfl rfl rfl rfl hb7 ?_
    refine RW.op1 rfl (runs_move rfl) ?_
    refine RW.on_guard rfl rfl rfl rfl hb7 ?_
    refine RW.call rfl call34 rfl rfl (refUnsafe_spec hst hl hlk) ?_
    rintro e w ⟨I2, vu, ls, hI2, rfl, hu, hmem, hul, hstn⟩
    clear hst
    have hst := hstn
    clear hstn
    replace hl := hl.mono hI2
    replace hle := hle.trans hI2
    refine ⟨_, rfl, ?_⟩
    refine RW.on_guard rfl rfl rfl rfl hb7 ?_
    refine RW.op1 rfl (RdL.len Tryd.underlying23 rfl hu) ?_
    rw [List.length_map]
    refine RW.on_guard rfl rfl rfl rfl hb7 ?_
    refine RW.op1 rfl (runs_eqI rfl rfl) ?_
    refine RW.op1 rfl (runs_pick_true rfl hb7 rfl) ?_
    refine RW.op1 rfl (runs_assign rfl) ?_
    refine RW.done ?_
    refine AQ.next ?_
    refine CW.ret ?_
    refine AQ.ret1 rfl rfl ?_
    refine ⟨_, hle, ?_, hst⟩
    unfold plainL
    rw [hb7, Bool.true_and]
    congr 2
    rw [decide_eq_decide]
    rw [← nil_mem hmem]
    constructor
    · intro h; exact List.eq_nil_of_length_eq_zero (by omega)
    · intro h; rw [h]; rfl
  · have hb7p := hb7
    try simp only [decide_eq_true_eq, decide_eq_false_iff_not] at hb7p
    refine RW.off_guard rfl rfl rfl rfl hb7 ?_
    refine RW.off_guard rfl rfl rfl rfl hb7 ?_
    refine RW.off_guard rfl rfl rfl rfl hb7 ?_
    refine RW.off_guard rfl rfl rfl rfl hb7 ?_
    refine RW.op1 rfl (runs_pick_false rfl hb7 rfl) ?_
    refine RW.op1 rfl (runs_assign rfl) ?_
    refine RW.done ?_
    refine AQ.next ?_
    refine CW.ret ?_
    refine AQ.ret1 rfl rfl ?_
    refine ⟨_, hle, ?_, hst⟩
    unfold plainL
    rw [hb7, Bool.false_and]
set_option maxRecDepth 100000 in
set_option maxHeartbeats 1000000 in
theorem refPre_spec {w0 w : World} {I : Imm} {L : Own} (hst : St w0 w I L) {vh : Value} {hs : List HRow} (hv : RdH I vh hs) (hok : HB hs) (code : Int) (body : ByteArray) (cut : Bool) {vl : Value} {l : List HRow} (hl : RdH I vl l) (hlk : HB l) (o m : ByteArray) (hm : m.size ≤ 9223372036854775807) (creds : Bool) :
    Calls Tryd.prog 20 #[.agg #[.int .i64 code, vh, .string body, .bool cut], .string o, .bool creds, .string m, vl] w fun e w' => ∃ I', Imm.le I I' ∧ e = .returned (.bool (decide (PreR code hs o.toList creds m.toList l))) ∧ St w0 w' I' L := by
  obtain ⟨hA, hcap, rfl⟩ : ∃ A c, vh = .slice A hs.length c := by obtain ⟨_, _, A, c, e, _⟩ := hv; exact ⟨A, c, e⟩
  refine enter Tryd.func20 rfl (N := 54) rfl rfl ?_
  simp only [List.zipIdx_cons, List.zipIdx_nil, List.map_cons, List.map_nil, Nat.zero_add, Nat.reduceAdd]
  have hle := Imm.le.refl I
  refine CW.seq ?_
  -- region 0
  refine CW.region ?_
  refine RW.opE rfl (runs_box rfl hst) ?_
  rintro _ w ⟨b1, rfl, hstn⟩
  clear hst
  have hst := hstn
  clear hstn
  refine RW.op1 rfl (runs_assign rfl) ?_
  refine RW.done ?_
  refine AQ.next ?_
  refine CW.seq ?_
  refine CW.seq ?_
  -- region 1
  refine CW.cut Imm (fun J w => I.le J ∧ RdH J (.slice hA hs.length hcap) hs ∧ RdH J vl l ∧ St w0 w J ((b1, Obj.cells (Value.agg #[.int .i64 code, .slice hA hs.length hcap, .string body, .bool cut]).cells 40) :: L)) (fun _ => [(2, .bool creds), (4, vl), (5, .pointer (some ⟨b1, 0, none⟩)), (40, .bool (decide (¬ (preOk code hs o.toList creds ∧ (commonL m.toList = true ∨ AllowsR hs methS (lower m.toList) creds)))))]) ?_ ?_
  · -- region 1
    refine CW.drawSt hst (.q 0 (.q 1 (.q 2 (.q 3 (.q 4 (.q 5 (.q 6 (.q 7 (.q 8 (.q 9 (.q 10 (.q 11 (.l 12 (.q 13 (.q 14 (.q 15 (.q 16 (.l 17 (.q 18 (.q 19 (.q 20 (.q 21 (.q 23 (.l 22 (.l 24 (.q 25 (.q 26 (.q 27 .nil)))))))))))))))))))))))))))) follows (by kernel_rfl) (fun w hst => ?_)
    first
      | refine DRW.q rfl rfl (fun w' hF => runs_fieldAddr0 rfl Tryd.underlying40 rfl ti3 (by decide)) ?_
      | refine DRW.q rfl rfl (fun w' hF => runs_fieldAddr rfl Tryd.underlying40 rfl ti3 (by decide)) ?_
    first
      | refine DRW.q rfl rfl (FSt.load1_own sc3 rfl (k := 0) rfl rfl) ?_
      | refine DRW.q rfl rfl (FSt.load1_own sc3 rfl (k := 1) rfl rfl) ?_
      | refine DRW.q rfl rfl (FSt.load1_own sc3 rfl (k := 2) rfl rfl) ?_
    refine DRW.q rfl rfl (fun w' hF => runs_lss rfl rfl) ?_
    refine DRW.q rfl rfl (fun w' hF => runs_move rfl) ?_
    refine DRW.split (t := 16) rfl (fun hb16 => ?_) (fun hb16 => ?_)
    · have hb16p := hb16
      try simp only [decide_eq_true_eq, decide_eq_false_iff_not] at hb16p
      refine DRW.q_off rfl rfl rfl rfl hb16 rfl ?_
      refine DRW.q_off rfl rfl rfl rfl hb16 rfl ?_
      refine DRW.q_off rfl rfl rfl rfl hb16 rfl ?_
      refine DRW.q rfl rfl (fun w' hF => runs_pick_true rfl hb16 rfl) ?_
      refine DRW.q rfl rfl (fun w' hF => runs_move rfl) ?_
      refine DRW.q_off rfl rfl rfl rfl rfl rfl ?_
      refine DRW.q_off rfl rfl rfl rfl rfl rfl ?_
      refine DRW.q_off rfl rfl rfl rfl rfl rfl ?_
      refine DRW.l_off rfl rfl rfl rfl rfl rfl ?_
      refine DRW.q_off rfl rfl rfl rfl rfl rfl ?_
      refine DRW.q rfl rfl (fun w' hF => runs_pick_true rfl rfl rfl) ?_
      refine DRW.q rfl rfl (fun w' hF => runs_move rfl) ?_
      refine DRW.q_off rfl rfl rfl rfl rfl rfl ?_
      refine DRW.l_off rfl rfl rfl rfl rfl rfl ?_
      refine DRW.q_off rfl rfl rfl rfl rfl rfl ?_
      refine DRW.q_off rfl rfl rfl rfl rfl rfl ?_
      refine DRW.q_undef rfl rfl rfl rfl rfl ?_
      refine DRW.q_undef rfl rfl rfl rfl rfl ?_
      refine DRW.q_undef rfl rfl rfl rfl rfl ?_
      refine DRW.l_undef rfl rfl rfl rfl rfl ?_
      refine DRW.l_undef rfl rfl rfl rfl rfl ?_
      refine DRW.q_undef rfl rfl rfl rfl rfl ?_
      refine DRW.q_off rfl rfl rfl rfl rfl rfl ?_
      refine DRW.q rfl rfl (fun w' hF => runs_pick_true rfl rfl rfl) ?_
      refine DRW.done ?_
      exact AQ.meet _ ⟨hle, hv, hl, hst⟩ ⟨rfl, rfl, rfl, boolN (by unfold preOk; clear hst hv hl; (try generalize CheckR hs o.toList creds = C at *); (try generalize AllowsR hs methS (lower m.toList) creds = Aw at *); (try generalize commonL m.toList = M at *); simp_all <;> omega), trivial⟩
    · have hb16p := hb16
      try simp only [decide_eq_true_eq, decide_eq_false_iff_not] at hb16p
      first
        | refine DRW.q_on rfl rfl rfl rfl hb16 rfl (fun w' hF => runs_fieldAddr0 rfl Tryd.underlying40 rfl ti3 (by decide)) ?_
        | refine DRW.q_on rfl rfl rfl rfl hb16 rfl (fun w' hF => runs_fieldAddr rfl Tryd.underlying40 rfl ti3 (by decide)) ?_
      first
        | refine DRW.q_on rfl rfl rfl rfl hb16 rfl (FSt.load1_own sc3 rfl (k := 0) rfl rfl) ?_
        | refine DRW.q_on rfl rfl rfl rfl hb16 rfl (FSt.load1_own sc3 rfl (k := 1) rfl rfl) ?_
        | refine DRW.q_on rfl rfl rfl rfl hb16 rfl (FSt.load1_own sc3 rfl (k := 2) rfl rfl) ?_
      refine DRW.q_on rfl rfl rfl rfl hb16 rfl (fun w' hF => runs_gtr rfl rfl) ?_
      refine DRW.q rfl rfl (fun w' hF => runs_pick_false rfl hb16 rfl) ?_
      refine DRW.q rfl rfl (fun w' hF => runs_move rfl) ?_
      refine DRW.split (t := 21) rfl (fun hb21 => ?_) (fun hb21 => ?_)
      · have hb21p := hb21
        try simp only [decide_eq_true_eq, decide_eq_false_iff_not] at hb21p
        refine DRW.q_off rfl rfl rfl rfl hb21 rfl ?_
        refine DRW.q_off rfl rfl rfl rfl hb21 rfl ?_
        refine DRW.q_off rfl rfl rfl rfl hb21 rfl ?_
        refine DRW.l_off rfl rfl rfl rfl hb21 rfl ?_
        refine DRW.q_off rfl rfl rfl rfl hb21 rfl ?_
        refine DRW.q rfl rfl (fun w' hF => runs_pick_true rfl hb21 rfl) ?_
        refine DRW.q rfl rfl (fun w' hF => runs_move rfl) ?_
        refine DRW.q_off rfl rfl rfl rfl rfl rfl ?_
        refine DRW.l_off rfl rfl rfl rfl rfl rfl ?_
        refine DRW.q_off rfl rfl rfl rfl rfl rfl ?_
        refine DRW.q_off rfl rfl rfl rfl rfl rfl ?_
        refine DRW.q_undef rfl rfl rfl rfl rfl ?_
        refine DRW.q_undef rfl rfl rfl rfl rfl ?_
        refine DRW.q_undef rfl rfl rfl rfl rfl ?_
        refine DRW.l_undef rfl rfl rfl rfl rfl ?_
        refine DRW.l_undef rfl rfl rfl rfl rfl ?_
        refine DRW.q_undef rfl rfl rfl rfl rfl ?_
        refine DRW.q_off rfl rfl rfl rfl rfl rfl ?_
        refine DRW.q rfl rfl (fun w' hF => runs_pick_true rfl rfl rfl) ?_
        refine DRW.done ?_
        exact AQ.meet _ ⟨hle, hv, hl, hst⟩ ⟨rfl, rfl, rfl, boolN (by unfold preOk; clear hst hv hl; (try generalize CheckR hs o.toList creds = C at *); (try generalize AllowsR hs methS (lower m.toList) creds = Aw at *); (try generalize commonL m.toList = M at *); simp_all <;> omega), trivial⟩
      · have hb21p := hb21
        try simp only [decide_eq_true_eq, decide_eq_false_iff_not] at hb21p
        first
          | refine DRW.q_on rfl rfl rfl rfl hb21 rfl (FSt.loadN (vs := [_, _, _, _]) ag40 ti40 rfl (k := 0) rfl rfl rfl) ?_
          | refine DRW.q_on rfl rfl rfl rfl hb21 rfl (FSt.loadN (vs := [_, _, _, _]) ag40 ti40 rfl (k := 1) rfl rfl rfl) ?_
          | refine DRW.q_on rfl rfl rfl rfl hb21 rfl (FSt.loadN (vs := [_, _, _, _]) ag40 ti40 rfl (k := 2) rfl rfl rfl) ?_
        refine DRW.q_on rfl rfl rfl rfl hb21 rfl (fun w' hF => runs_move rfl) ?_
        refine DRW.q_on rfl rfl rfl rfl hb21 rfl (fun w' hF => runs_move rfl) ?_
        refine DRW.call_on rfl rfl rfl rfl hb21 rfl call19 rfl rfl (refCors_spec hst hv hok code body cut o creds) ?_
        rintro e w ⟨I2, hI2, rfl, hstn⟩
        clear hst
        have hst := hstn
        clear hstn
        replace hv := hv.mono hI2
        replace hl := hl.mono hI2
        replace hle := hle.trans hI2
        refine ⟨_, rfl, FSt.of hst hI2 (by first | exact (List.sublist_cons_self _ _).trans (List.sublist_append_right _ _) | exact List.Sublist.refl _ | exact List.sublist_cons_self _ _ | exact List.sublist_append_right _ _ | exact (List.sublist_cons_self _ _).trans (List.sublist_cons_self _ _) | exact (List.sublist_append_right _ _).trans (List.sublist_cons_self _ _) | simp), ?_⟩
        refine DRW.q_on rfl rfl rfl rfl hb21 rfl (fun w' hF => runs_not rfl) ?_
        refine DRW.q rfl rfl (fun w' hF => runs_pick_false rfl hb21 rfl) ?_
        refine DRW.q rfl rfl (fun w' hF => runs_move rfl) ?_
        refine DRW.split (t := 28) rfl (fun hb28 => ?_) (fun hb28 => ?_)
        · have hb28p := hb28
          try simp only [decide_eq_true_eq, decide_eq_false_iff_not] at hb28p
          refine DRW.q_off rfl rfl rfl rfl hb28 rfl ?_
          refine DRW.l_off rfl rfl rfl rfl hb28 rfl ?_
          refine DRW.q_off rfl rfl rfl rfl hb28 rfl ?_
          refine DRW.q_off rfl rfl rfl rfl hb28 rfl ?_
          refine DRW.q_undef rfl rfl rfl rfl rfl ?_
          refine DRW.q_undef rfl rfl rfl rfl rfl ?_
          refine DRW.q_undef rfl rfl rfl rfl rfl ?_
          refine DRW.l_undef rfl rfl rfl rfl rfl ?_
          refine DRW.l_undef rfl rfl rfl rfl rfl ?_
          refine DRW.q_undef rfl rfl rfl rfl rfl ?_
          refine DRW.q_off rfl rfl rfl rfl hb28 rfl ?_
          refine DRW.q rfl rfl (fun w' hF => runs_pick_true rfl hb28 rfl) ?_
          refine DRW.done ?_
          exact AQ.meet _ ⟨hle, hv, hl, hst⟩ ⟨rfl, rfl, rfl, boolN (by unfold preOk; clear hst hv hl; (try generalize CheckR hs o.toList creds = C at *); (try generalize AllowsR hs methS (lower m.toList) creds = Aw at *); (try generalize commonL m.toList = M at *); simp_all <;> omega), trivial⟩
        · have hb28p := hb28
          try simp only [decide_eq_true_eq, decide_eq_false_iff_not] at hb28p
          refine DRW.q_on rfl rfl rfl rfl hb28 rfl (fun w' hF => runs_move rfl) ?_
          refine DRW.call_on rfl rfl rfl rfl hb28 rfl call33 rfl rfl (plainMethod_spec hst m) ?_
          rintro e w ⟨rfl, hstn⟩
          clear hst
          have hst := hstn
          clear hstn
          refine ⟨_, rfl, FSt.of hst hI2 (by first | exact (List.sublist_cons_self _ _).trans (List.sublist_append_right _ _) | exact List.Sublist.refl _ | exact List.sublist_cons_self _ _ | exact List.sublist_append_right _ _ | exact (List.sublist_cons_self _ _).trans (List.sublist_cons_self _ _) | exact (List.sublist_append_right _ _).trans (List.sublist_cons_self _ _) | simp), ?_⟩
          refine DRW.q_on rfl rfl rfl rfl hb28 rfl (fun w' hF => runs_not rfl) ?_
          refine DRW.q_on rfl rfl rfl rfl hb28 rfl (fun w' hF => runs_move rfl) ?_
          refine DRW.split (t := 32) rfl (fun hb32 => ?_) (fun hb32 => ?_)
          · have hb32p := hb32
            try simp only [decide_eq_true_eq, decide_eq_false_iff_not] at hb32p
            first
              | refine DRW.q_on rfl rfl rfl rfl hb32 rfl (FSt.loadN (vs := [_, _, _, _]) ag40 ti40 rfl (k := 0) rfl rfl rfl) ?_
              | refine DRW.q_on rfl rfl rfl rfl hb32 rfl (FSt.loadN (vs := [_, _, _, _]) ag40 ti40 rfl (k := 1) rfl rfl rfl) ?_
              | refine DRW.q_on rfl rfl rfl rfl hb32 rfl (FSt.loadN (vs := [_, _, _, _]) ag40 ti40 rfl (k := 2) rfl rfl rfl) ?_
            refine DRW.q_on rfl rfl rfl rfl hb32 rfl (fun w' hF => runs_move rfl) ?_
            refine DRW.q_on rfl rfl rfl rfl hb32 rfl (fun w' hF => runs_move rfl) ?_
            refine DRW.call_on rfl rfl rfl rfl hb32 rfl call37 rfl rfl (refLower_spec hst m hm) ?_
            rintro e w ⟨I4, hI4, rfl, hstn⟩
            clear hst
            have hst := hstn
            clear hstn
            replace hv := hv.mono hI4
            replace hl := hl.mono hI4
            replace hle := hle.trans hI4
            refine ⟨_, rfl, FSt.of hst (hI2.trans hI4) (by first | exact (List.sublist_cons_self _ _).trans (List.sublist_append_right _ _) | exact List.Sublist.refl _ | exact List.sublist_cons_self _ _ | exact List.sublist_append_right _ _ | exact (List.sublist_cons_self _ _).trans (List.sublist_cons_self _ _) | exact (List.sublist_append_right _ _).trans (List.sublist_cons_self _ _) | simp), ?_⟩
            refine DRW.call_on rfl rfl rfl rfl hb32 rfl call36 rfl rfl (listed_spec hst hv hok code body cut methS (strOf (lower m.toList)) (by decide) creds) ?_
            rintro e w ⟨I5, hI5, rfl, hstn⟩
            clear hst
            have hst := hstn
            clear hstn
            rw [strOf_toList]
            replace hv := hv.mono hI5
            replace hl := hl.mono hI5
            replace hle := hle.trans hI5
            refine ⟨_, rfl, FSt.of hst ((hI2.trans hI4).trans hI5) (by first | exact (List.sublist_cons_self _ _).trans (List.sublist_append_right _ _) | exact List.Sublist.refl _ | exact List.sublist_cons_self _ _ | exact List.sublist_append_right _ _ | exact (List.sublist_cons_self _ _).trans (List.sublist_cons_self _ _) | exact (List.sublist_append_right _ _).trans (List.sublist_cons_self _ _) | simp), ?_⟩
            refine DRW.q_on rfl rfl rfl rfl hb32 rfl (fun w' hF => runs_not rfl) ?_
            refine DRW.q_on rfl rfl rfl rfl hb28 rfl (fun w' hF => runs_pick_true rfl hb32 rfl) ?_
            refine DRW.q rfl rfl (fun w' hF => runs_pick_false rfl hb28 rfl) ?_
            refine DRW.done ?_
            exact AQ.meet _ ⟨hle, hv, hl, hst⟩ ⟨rfl, rfl, rfl, boolN (by unfold preOk; clear hst hv hl; (try generalize CheckR hs o.toList creds = C at *); (try generalize AllowsR hs methS (lower m.toList) creds = Aw at *); (try generalize commonL m.toList = M at *); simp_all <;> omega), trivial⟩
          · have hb32p := hb32
            try simp only [decide_eq_true_eq, decide_eq_false_iff_not] at hb32p
            refine DRW.q_off rfl rfl rfl rfl hb32 rfl ?_
            refine DRW.q_off rfl rfl rfl rfl hb32 rfl ?_
            refine DRW.q_off rfl rfl rfl rfl hb32 rfl ?_
            refine DRW.l_off rfl rfl rfl rfl hb32 rfl ?_
            refine DRW.l_off rfl rfl rfl rfl hb32 rfl ?_
            refine DRW.q_off rfl rfl rfl rfl hb32 rfl ?_
            refine DRW.q_on rfl rfl rfl rfl hb28 rfl (fun w' hF => runs_pick_false rfl hb32 rfl) ?_
            refine DRW.q rfl rfl (fun w' hF => runs_pick_false rfl hb28 rfl) ?_
            refine DRW.done ?_
            exact AQ.meet _ ⟨hle, hv, hl, hst⟩ ⟨rfl, rfl, rfl, boolN (by unfold preOk; clear hst hv hl; (try generalize CheckR hs o.toList creds = C at *); (try generalize AllowsR hs methS (lower m.toList) creds = Aw at *); (try generalize commonL m.toList = M at *); simp_all <;> omega), trivial⟩
  · clear hst hle hv hl
    rintro J w ⟨hle, hv, hl, hst⟩
    refine AQ.next ?_
    refine CW.cond rfl (fun hc40 => ?_) (fun hc40 => ?_)
    · have hcb40 := hc40
      try simp only [decide_eq_true_eq, decide_eq_false_iff_not] at hc40
      have h40 : ¬ (preOk code hs o.toList creds ∧ (commonL m.toList = true ∨ AllowsR hs methS (lower m.toList) creds)) := of_decide_eq_true hcb40
      refine CW.seq ?_
      -- region 2
      refine CW.region ?_
      refine RW.op1 rfl (runs_assign rfl) ?_
      refine RW.done ?_
      refine AQ.next ?_
      refine CW.ret ?_
      refine AQ.past_ret ?_
      refine AQ.ret1 rfl rfl ?_
      refine ⟨_, hle, ?_, hst.drop1⟩
      rw [decide_eq_false (fun h => h40 ⟨h.1, h.2.1⟩)]
    · have hcb40 := hc40
      try simp only [decide_eq_true_eq, decide_eq_false_iff_not] at hc40
      have h40 : preOk code hs o.toList creds ∧ (commonL m.toList = true ∨ AllowsR hs methS (lower m.toList) creds) := Decidable.not_not.1 (of_decide_eq_false hcb40)
      refine CW.skip ?_
      refine AQ.next ?_
      refine CW.seq ?_
      refine CW.seq ?_
      -- region 3
      refine CW.region ?_
      refine RW.op1 rfl (runs_move rfl) ?_
      refine RW.call rfl call34 rfl rfl (refUnsafe_spec hst hl hlk) ?_
      rintro e w ⟨I6, vu, ls, hI6, rfl, hu, hmem, hul, hstn⟩
      clear hst
      have hst := hstn
      clear hstn
      replace hv := hv.mono hI6
      replace hl := hl.mono hI6
      replace hle := hle.trans hI6
      refine ⟨_, rfl, ?_⟩
      refine RW.op1 rfl (RdL.len Tryd.underlying23 rfl hu) ?_
      rw [List.length_map]
      refine RW.op1 rfl (runs_move rfl) ?_
      refine RW.done ?_
      refine AQ.next ?_
      refine CW.block ?_
      -- loop 1
      refine CW.loop (Nat × Imm) (fun x w => I.le x.2 ∧ RdS x.2 vu (ls.map strOf) ∧ RdH x.2 (.slice hA hs.length hcap) hs ∧ St w0 w x.2 ((b1, Obj.cells (Value.agg #[.int .i64 code, .slice hA hs.length hcap, .string body, .bool cut]).cells 40) :: L) ∧ x.1 ≤ ls.length ∧ ∀ y ∈ ls.take x.1, AllowsR hs ahdsS y creds) (fun x => [(2, .bool creds), (5, .pointer (some ⟨b1, 0, none⟩)), (42, vu), (43, .int .i64 (ls.length : Nat)), (44, .int .i64 (x.1 : Int))]) (fun x => ls.length - x.1) ⟨(0, _), ⟨hle, hu, hv, hst, Nat.zero_le _, by simp⟩, ⟨rfl, rfl, rfl, rfl, rfl, trivial⟩⟩ ?_
      clear hle hu hv hl
      rintro ⟨k, I2⟩ w ⟨hle, hu, hv, hstn, hk, hall⟩
      dsimp only at hle hu hv hstn hk hall ⊢
      clear hst
      have hst := hstn
      clear hstn
      refine CW.seq ?_
      -- region 4
      refine CW.region ?_
      refine RW.op1 rfl (runs_lss rfl rfl) ?_
      refine RW.done ?_
      refine AQ.next ?_
      refine CW.seq ?_
      refine CW.cond rfl (fun hc45 => ?_) (fun hc45 => ?_)
      · have hcb45 := hc45
        try simp only [decide_eq_true_eq, decide_eq_false_iff_not] at hc45
        have hk1 : k < ls.length := by omega
        obtain ⟨p, hr⟩ : ∃ r, ls[k] = r := ⟨_, rfl⟩
        have hpm : p ∈ ls := by rw [← hr]; exact List.getElem_mem _
        have hst5 : sat (ls.map strOf) (k : Int) = strOf p := by rw [sat_get (by rw [List.length_map]; exact hk1), List.getElem_map, hr]
        refine CW.skip ?_
        refine AQ.next ?_
        refine CW.seq ?_
        refine CW.block ?_
        refine CW.seq ?_
        -- region 5
        refine CW.region ?_
        refine RW.op1 rfl (RdL.indexAddr Tryd.underlying23 ti9 (by decide) rfl rfl hu (by rw [List.length_map]; omega)) ?_
        refine RW.op1 rfl (runs_load1 sc9 rfl (hst.cell_imm (RdS.at hu (by omega) (by rw [List.length_map]; omega)))) ?_
        rw [hst5]
        refine RW.op1 rfl (runs_assign rfl) ?_
        refine RW.done ?_
        refine AQ.next ?_
        refine CW.seq ?_
        -- region 6
        refine CW.region ?_
        first
          | refine RW.op1 rfl (runs_loadN (vs := [_, _, _, _]) ag40 ti40 rfl hst (k := 0) rfl rfl rfl) ?_
          | refine RW.op1 rfl (runs_loadN (vs := [_, _, _, _]) ag40 ti40 rfl hst (k := 1) rfl rfl rfl) ?_
          | refine RW.op1 rfl (runs_loadN (vs := [_, _, _, _]) ag40 ti40 rfl hst (k := 2) rfl rfl rfl) ?_
        refine RW.op1 rfl (runs_move rfl) ?_
        refine RW.op1 rfl (runs_move rfl) ?_
        refine RW.call rfl call36 rfl rfl (listed_spec hst hv hok code body cut ahdsS (strOf p) (by decide) creds) ?_
        rintro e w ⟨I7, hI7, rfl, hstn⟩
        clear hst
        have hst := hstn
        clear hstn
        rw [strOf_toList]
        replace hu := hu.mono hI7
        replace hv := hv.mono hI7
        replace hle := hle.trans hI7
        refine ⟨_, rfl, ?_⟩
        refine RW.op1 rfl (runs_not rfl) ?_
        refine RW.done ?_
        refine AQ.next ?_
        refine CW.cond rfl (fun hc52 => ?_) (fun hc52 => ?_)
        · have hcb52 := hc52
          try simp only [decide_eq_true_eq, decide_eq_false_iff_not] at hc52
          have h52 : ¬ AllowsR hs ahdsS p creds := by simpa using hcb52
          refine CW.seq ?_
          -- region 7
          refine CW.region ?_
          refine RW.op1 rfl (runs_assign rfl) ?_
          refine RW.done ?_
          refine AQ.next ?_
          refine CW.ret ?_
          refine AQ.block_ret ?_
          refine AQ.past_ret ?_
          refine AQ.past_ret ?_
          refine AQ.block_ret ?_
          refine AQ.past_ret ?_
          refine AQ.ret1 rfl rfl ?_
          refine ⟨_, hle, ?_, hst.drop1⟩
          rw [decide_eq_false (fun h => h52 (h.2.2 p ((hmem p).1 hpm)))]
        · have hcb52 := hc52
          try simp only [decide_eq_true_eq, decide_eq_false_iff_not] at hc52
          have h52 : AllowsR hs ahdsS p creds := by simpa using hcb52
          refine CW.skip ?_
          refine AQ.block_normal ?_
          refine AQ.next ?_
          -- region 8
          refine CW.region ?_
          refine RW.op1 rfl (runs_add rfl rfl (by omega)) ?_
          refine RW.op1 rfl (runs_move rfl) ?_
          refine RW.done ?_
          exact AQ.again (x := (k, I2)) (k + 1, _) ⟨hle, hu, hv, hst, by dsimp only; omega, takeE_more hall hk1 (by rw [hr]; exact h52)⟩ ⟨rfl, rfl, rfl, rfl, rfl, trivial⟩ (by dsimp only; omega)
      · have hcb45 := hc45
        try simp only [decide_eq_true_eq, decide_eq_false_iff_not] at hc45
        skip
        refine CW.exit ?_
        refine AQ.past_exit ?_
        refine AQ.past_exit ?_
        refine AQ.block_hit ?_
        refine AQ.next ?_
        refine CW.seq ?_
        -- region 9
        refine CW.region ?_
        refine RW.op1 rfl (runs_assign rfl) ?_
        refine RW.done ?_
        refine AQ.next ?_
        refine CW.ret ?_
        refine AQ.ret1 rfl rfl ?_
        refine ⟨_, hle, ?_, hst.drop1⟩
        rw [List.take_of_length_le (by omega)] at hall
        rw [decide_eq_true (show PreR code hs o.toList creds m.toList l from ⟨h40.1, h40.2, fun n hn => hall n ((hmem n).2 hn)⟩)]
end Go.Proofs.YtfdgnjbbchkgpaaDoorX
