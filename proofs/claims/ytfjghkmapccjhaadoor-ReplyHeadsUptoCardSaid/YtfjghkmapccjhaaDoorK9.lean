/- Answers printed, two ways: what these come to. -/
import Derived.Test.YtfjghkmapccjhaaDoorT
import Derived.Test.YtfjghkmapccjhaaDoorK7
import Derived.Test.YtfjghkmapccjhaaDoorXT
namespace Go.Proofs.YtfjghkmapccjhaaDoorX
set_option linter.unusedVariables false
set_option linter.unusedSimpArgs false
open Go Go.RowKit Go.Proofs

def printRow (h : HL) : List UInt8 := h.1 ++ [58, 32] ++ h.2 ++ [13, 10]
def printTop (n : Nat) : List UInt8 := httpL ++ Lib.decDigits n ++ [32, 45] ++ [13, 10]
def printL (n : Nat) (hs : List HL) (b : List UInt8) : List UInt8 := printTop n ++ hs.flatMap printRow ++ [13, 10] ++ b
def SmL (hs : List HL) : Prop := hs.length ≤ 10 ∧ ∀ h ∈ hs, h.1.length ≤ 100000000 ∧ h.2.length ≤ 100000000
theorem rows_len : ∀ {hs : List HL} {m : Nat}, hs.length ≤ m → (∀ h ∈ hs, h.1.length ≤ 100000000 ∧ h.2.length ≤ 100000000) → (hs.flatMap printRow).length ≤ m * 200000004
  | [], m, _, _ => Nat.zero_le _
  | h :: r, 0, hl, _ => by simp at hl
  | h :: r, m + 1, hl, hs => by
    have h1 := rows_len (m := m) (by simpa using hl) (fun x hx => hs x (List.mem_cons_of_mem _ hx))
    have h2 := hs h (by simp)
    rw [List.flatMap_cons, List.length_append]
    have h3 : (printRow h).length ≤ 200000004 := by unfold printRow; simp only [List.length_append, List.length_cons, List.length_nil]; omega
    omega
theorem rows_take {hs : List HL} (h : SmL hs) (k : Nat) : ((hs.take k).flatMap printRow).length ≤ 2000000040 := by
  have := rows_len (m := 10) (hs := hs.take k) (by rw [List.length_take]; have := h.1; omega) (fun x hx => h.2 x (List.mem_of_mem_take hx))
  omega
theorem flat_next {hs : List HL} {k : Nat} {h : HL} (hk : hs[k]? = some h) : (hs.take (k + 1)).flatMap printRow = (hs.take k).flatMap printRow ++ printRow h := by
  rw [List.take_add_one, hk, List.flatMap_append]
  simp
theorem row_str (A : List UInt8) (h : HL) : strOf A ++ (hrowL h).1 ++ ⟨#[58, 32]⟩ ++ (hrowL h).2 ++ ⟨#[13, 10]⟩ = strOf (A ++ printRow h) := by
  unfold printRow hrowL
  rw [show (ByteArray.mk #[58, 32]) = strOf [58, 32] from rfl, show (ByteArray.mk #[13, 10]) = strOf [13, 10] from rfl]
  simp only [strOf_append, List.append_assoc]
theorem row_str2 (A : List UInt8) (h : HL) : strOf A ++ ((hrowL h).1 ++ ⟨#[58, 32]⟩ ++ (hrowL h).2 ++ ⟨#[13, 10]⟩) = strOf (A ++ printRow h) := by
  unfold printRow hrowL
  rw [show (ByteArray.mk #[58, 32]) = strOf [58, 32] from rfl, show (ByteArray.mk #[13, 10]) = strOf [13, 10] from rfl]
  simp only [strOf_append, List.append_assoc]
set_option maxRecDepth 100000 in
set_option maxHeartbeats 1000000 in
theorem print_spec {w0 w : World} {I : Imm} {L : Own} (hst : St w0 w I L) (hT : TabK I) (code : Int) (hc1 : 1 ≤ code) (hc2 : code ≤ 9223372036854775807) {v : Value} {hs : List HL} (hv : RdH I v (hs.map hrowL)) (hsm : SmL hs) (b : ByteArray) (hb : b.size ≤ 1099511627776) (cut : Bool) :
    Calls Tryd.prog 13 #[.agg #[.int .i64 code, v, .string b, .bool cut]] w fun e w' => e = .returned (.string (strOf (printL code.toNat hs b.toList))) ∧ St w0 w' I L := by
  obtain ⟨hA, hcap, hvv⟩ : ∃ A c, v = .slice A hs.length c := by obtain ⟨_, _, A, c, e, _⟩ := hv; rw [List.length_map] at e; exact ⟨A, c, e⟩
  subst hvv
  have hdr := digits_room (n := code) hc1 hc2
  have hl10 := hsm.1
  have hall := rows_take hsm hs.length
  have hpt : (printTop code.toNat).length ≤ 33 := by unfold printTop; simp only [List.length_append]; show 9 + _ + 2 + 2 ≤ _; omega
  refine enter Tryd.func13 rfl (N := 34) rfl rfl ?_
  simp only [List.zipIdx_cons, List.zipIdx_nil, List.map_cons, List.map_nil, Nat.zero_add, Nat.reduceAdd]
  have hle := Imm.le.refl I
  refine CW.seq ?_
  -- region 0
  refine CW.region ?_
  refine RW.opE rfl (runs_box rfl hst) ?_
  rintro _ w ⟨b1, rfl, hstn⟩
  clear hst
  have hst := hstn
  clear hstn
  refine RW.op1 rfl (runs_assign rfl) ?_
  refine RW.done ?_
  refine AQ.next ?_
  refine CW.seq ?_
  -- region 1
  refine CW.region ?_
  first
    | refine RW.op1 rfl (runs_fieldAddr0 rfl Tryd.underlying29 rfl ti3 (by decide)) ?_
    | refine RW.op1 rfl (runs_fieldAddr rfl Tryd.underlying29 rfl ti3 (by decide)) ?_
  first
    | refine RW.op1 rfl (runs_load1 sc3 rfl (hst.cell_own (k := 0) rfl rfl)) ?_
    | refine RW.op1 rfl (runs_load1 sc3 rfl (hst.cell_own (k := 1) rfl rfl)) ?_
    | refine RW.op1 rfl (runs_load1 sc3 rfl (hst.cell_own (k := 2) rfl rfl)) ?_
  refine RW.call rfl call26 rfl rfl (itoa_spec hst hT code hc1 hc2) ?_
  rintro e w ⟨rfl, hstn⟩
  clear hst
  have hst := hstn
  clear hstn
  refine ⟨_, rfl, ?_⟩
  refine RW.op1 rfl (runs_addS rfl rfl (by simp only [ByteArray.size_append, strOfZ, hrowL, List.length_append, show (ByteArray.mk #[58, 32]).size = 2 from rfl, show (ByteArray.mk #[13, 10]).size = 2 from rfl, show (ByteArray.mk #[32, 45]).size = 2 from rfl, show (ByteArray.mk #[72, 84, 84, 80, 47, 49, 46, 49, 32]).size = 9 from rfl]; omega)) ?_
  refine RW.op1 rfl (runs_addS rfl rfl (by simp only [ByteArray.size_append, strOfZ, hrowL, List.length_append, show (ByteArray.mk #[58, 32]).size = 2 from rfl, show (ByteArray.mk #[13, 10]).size = 2 from rfl, show (ByteArray.mk #[32, 45]).size = 2 from rfl, show (ByteArray.mk #[72, 84, 84, 80, 47, 49, 46, 49, 32]).size = 9 from rfl]; omega)) ?_
  refine RW.op1 rfl (runs_addS rfl rfl (by simp only [ByteArray.size_append, strOfZ, hrowL, List.length_append, show (ByteArray.mk #[58, 32]).size = 2 from rfl, show (ByteArray.mk #[13, 10]).size = 2 from rfl, show (ByteArray.mk #[32, 45]).size = 2 from rfl, show (ByteArray.mk #[72, 84, 84, 80, 47, 49, 46, 49, 32]).size = 9 from rfl]; omega)) ?_
  refine RW.op1 rfl (runs_assign rfl) ?_
  refine RW.done ?_
  refine AQ.next ?_
  refine CW.seq ?_
  refine CW.seq ?_
  -- region 2
  refine CW.region ?_
  first
    | refine RW.op1 rfl (runs_fieldAddr0 rfl Tryd.underlying29 rfl ti23 (by decide)) ?_
    | refine RW.op1 rfl (runs_fieldAddr rfl Tryd.underlying29 rfl ti23 (by decide)) ?_
  first
    | refine RW.op1 rfl (runs_load1 sc23 rfl (hst.cell_own (k := 0) rfl rfl)) ?_
    | refine RW.op1 rfl (runs_load1 sc23 rfl (hst.cell_own (k := 1) rfl rfl)) ?_
    | refine RW.op1 rfl (runs_load1 sc23 rfl (hst.cell_own (k := 2) rfl rfl)) ?_
  refine RW.op1 rfl (runs_lenL Tryd.underlying23 rfl) ?_
  refine RW.op1 rfl (runs_move rfl) ?_
  refine RW.done ?_
  refine AQ.next ?_
  refine CW.block ?_
  -- loop 1
  refine CW.loop Nat (fun k w => St w0 w I ([(b1, Obj.cells (Value.agg #[.int .i64 code, .slice hA hs.length hcap, .string b, .bool cut]).cells 29)] ++ L) ∧ k ≤ hs.length) (fun k => [(1, .pointer (some ⟨b1, 0, none⟩)), (3, .string (strOf (printTop code.toNat ++ (hs.take k).flatMap printRow))), (13, .slice hA hs.length hcap), (14, .int .i64 (hs.length : Nat)), (15, .int .i64 (k : Int))]) (fun k => hs.length - k) ⟨0, ⟨hst, Nat.zero_le _⟩, ⟨rfl, (by rw [List.take_zero, List.flatMap_nil, List.append_nil]; unfold printTop; rw [← strOf_append, ← strOf_append, ← strOf_append]; rfl), rfl, rfl, rfl, trivial⟩⟩ ?_
  rintro k w ⟨hstn, hk⟩
  clear hst
  have hst := hstn
  clear hstn
  refine CW.seq ?_
  -- region 3
  refine CW.region ?_
  refine RW.op1 rfl (runs_lss rfl rfl) ?_
  refine RW.done ?_
  refine AQ.next ?_
  refine CW.seq ?_
  refine CW.cond rfl (fun hc16 => ?_) (fun hc16 => ?_)
  · have hcb16 := hc16
    try simp only [decide_eq_true_eq, decide_eq_false_iff_not] at hc16
    have hk1 : k < hs.length := by omega
    obtain ⟨⟨hn, hd⟩, hr⟩ : ∃ r, hs[k] = r := ⟨_, rfl⟩
    have hr2 : hs[k]? = some (hn, hd) := by rw [List.getElem?_eq_getElem hk1, hr]
    have hr3 : (hs.map hrowL)[k]? = some (hrowL (hn, hd)) := by rw [List.getElem?_map, hr2]; rfl
    have hs2 := hsm.2 (hn, hd) (List.mem_of_getElem? hr2)
    dsimp only at hs2
    have hrt := rows_take hsm k
    have hfn := flat_next hr2
    refine CW.skip ?_
    refine AQ.next ?_
    refine CW.seq ?_
    refine CW.block ?_
    refine CW.seq ?_
    -- region 4
    refine CW.region ?_
    refine RW.op1 rfl (RdL.indexAddr Tryd.underlying23 ti27 (by decide) rfl rfl hv (by rw [List.length_map]; omega)) ?_
    refine RW.op1 rfl (RdL.loadRow (row := hrow (hrowL (hn, hd))) ag27 ti27 rfl hv hst rfl (hrow_at hr3)) ?_
    refine RW.opE rfl (runs_alloc ti27 hst) ?_
    rintro _ w ⟨b3, rfl, hstn⟩
    clear hst
    have hst := hstn
    clear hstn
    first
      | refine RW.opE0 (runs_storeW ti27 rfl rfl hst (k := 0) rfl rfl rfl (NoFz.zero _) rfl) ?_
      | refine RW.opE0 (runs_storeP ti27 rfl rfl hst (k := 0) rfl rfl rfl (NoFz.zero _) rfl) ?_
      | refine RW.opE0 (runs_storeW ti27 rfl rfl hst (k := 1) rfl rfl rfl (NoFz.zero _) rfl) ?_
      | refine RW.opE0 (runs_storeP ti27 rfl rfl hst (k := 1) rfl rfl rfl (NoFz.zero _) rfl) ?_
      | refine RW.opE0 (runs_storeW ti27 rfl rfl hst (k := 2) rfl rfl rfl (NoFz.zero _) rfl) ?_
      | refine RW.opE0 (runs_storeP ti27 rfl rfl hst (k := 2) rfl rfl rfl (NoFz.zero _) rfl) ?_
    rintro w hstn
    clear hst
    have hst := hstn
    clear hstn
    try simp only [List.set_cons_zero, List.set_cons_succ] at hst
    refine RW.done ?_
    refine AQ.next ?_
    -- region 5
    refine CW.region ?_
    refine RW.op1 rfl (runs_move rfl) ?_
    first
      | refine RW.op1 rfl (runs_fieldAddr0 rfl Tryd.underlying27 rfl ti9 (by decide)) ?_
      | refine RW.op1 rfl (runs_fieldAddr rfl Tryd.underlying27 rfl ti9 (by decide)) ?_
    first
      | refine RW.op1 rfl (runs_load1 sc9 rfl (hst.cell_own (k := 0) rfl rfl)) ?_
      | refine RW.op1 rfl (runs_load1 sc9 rfl (hst.cell_own (k := 1) rfl rfl)) ?_
      | refine RW.op1 rfl (runs_load1 sc9 rfl (hst.cell_own (k := 2) rfl rfl)) ?_
    refine RW.op1 rfl (runs_addS rfl rfl (by simp only [ByteArray.size_append, strOfZ, hrowL, List.length_append, show (ByteArray.mk #[58, 32]).size = 2 from rfl, show (ByteArray.mk #[13, 10]).size = 2 from rfl, show (ByteArray.mk #[32, 45]).size = 2 from rfl, show (ByteArray.mk #[72, 84, 84, 80, 47, 49, 46, 49, 32]).size = 9 from rfl]; omega)) ?_
    refine RW.op1 rfl (runs_addS rfl rfl (by simp only [ByteArray.size_append, strOfZ, hrowL, List.length_append, show (ByteArray.mk #[58, 32]).size = 2 from rfl, show (ByteArray.mk #[13, 10]).size = 2 from rfl, show (ByteArray.mk #[32, 45]).size = 2 from rfl, show (ByteArray.mk #[72, 84, 84, 80, 47, 49, 46, 49, 32]).size = 9 from rfl]; omega)) ?_
    first
      | refine RW.op1 rfl (runs_fieldAddr0 rfl Tryd.underlying27 rfl ti9 (by decide)) ?_
      | refine RW.op1 rfl (runs_fieldAddr rfl Tryd.underlying27 rfl ti9 (by decide)) ?_
    first
      | refine RW.op1 rfl (runs_load1 sc9 rfl (hst.cell_own (k := 0) rfl rfl)) ?_
      | refine RW.op1 rfl (runs_load1 sc9 rfl (hst.cell_own (k := 1) rfl rfl)) ?_
      | refine RW.op1 rfl (runs_load1 sc9 rfl (hst.cell_own (k := 2) rfl rfl)) ?_
    refine RW.op1 rfl (runs_addS rfl rfl (by simp only [ByteArray.size_append, strOfZ, hrowL, List.length_append, show (ByteArray.mk #[58, 32]).size = 2 from rfl, show (ByteArray.mk #[13, 10]).size = 2 from rfl, show (ByteArray.mk #[32, 45]).size = 2 from rfl, show (ByteArray.mk #[72, 84, 84, 80, 47, 49, 46, 49, 32]).size = 9 from rfl]; omega)) ?_
    refine RW.op1 rfl (runs_addS rfl rfl (by simp only [ByteArray.size_append, strOfZ, hrowL, List.length_append, show (ByteArray.mk #[58, 32]).size = 2 from rfl, show (ByteArray.mk #[13, 10]).size = 2 from rfl, show (ByteArray.mk #[32, 45]).size = 2 from rfl, show (ByteArray.mk #[72, 84, 84, 80, 47, 49, 46, 49, 32]).size = 9 from rfl]; omega)) ?_
    refine RW.op1 rfl (runs_assign rfl) ?_
    refine RW.done ?_
    refine AQ.block_normal ?_
    refine AQ.next ?_
    -- region 6
    refine CW.region ?_
    refine RW.op1 rfl (runs_add rfl rfl (by omega)) ?_
    refine RW.op1 rfl (runs_move rfl) ?_
    refine RW.done ?_
    exact AQ.again (x := k) (k + 1) ⟨hst.drop1, by omega⟩ ⟨rfl, (by rw [hfn, ← List.append_assoc, ← row_str]; rfl), rfl, rfl, rfl, trivial⟩ (by omega)
  · have hcb16 := hc16
    try simp only [decide_eq_true_eq, decide_eq_false_iff_not] at hc16
    skip
    refine CW.exit ?_
    refine AQ.past_exit ?_
    refine AQ.past_exit ?_
    refine AQ.block_hit ?_
    refine AQ.next ?_
    refine CW.seq ?_
    -- region 7
    refine CW.region ?_
    have hrt := rows_take hsm k
    refine RW.op1 rfl (runs_move rfl) ?_
    refine RW.op1 rfl (runs_addS rfl rfl (by simp only [ByteArray.size_append, strOfZ, hrowL, List.length_append, show (ByteArray.mk #[58, 32]).size = 2 from rfl, show (ByteArray.mk #[13, 10]).size = 2 from rfl, show (ByteArray.mk #[32, 45]).size = 2 from rfl, show (ByteArray.mk #[72, 84, 84, 80, 47, 49, 46, 49, 32]).size = 9 from rfl]; omega)) ?_
    first
      | refine RW.op1 rfl (runs_fieldAddr0 rfl Tryd.underlying29 rfl ti9 (by decide)) ?_
      | refine RW.op1 rfl (runs_fieldAddr rfl Tryd.underlying29 rfl ti9 (by decide)) ?_
    first
      | refine RW.op1 rfl (runs_load1 sc9 rfl (hst.cell_own (k := 0) rfl rfl)) ?_
      | refine RW.op1 rfl (runs_load1 sc9 rfl (hst.cell_own (k := 1) rfl rfl)) ?_
      | refine RW.op1 rfl (runs_load1 sc9 rfl (hst.cell_own (k := 2) rfl rfl)) ?_
    refine RW.op1 rfl (runs_addS rfl rfl (by simp only [ByteArray.size_append, strOfZ, hrowL, List.length_append, show (ByteArray.mk #[58, 32]).size = 2 from rfl, show (ByteArray.mk #[13, 10]).size = 2 from rfl, show (ByteArray.mk #[32, 45]).size = 2 from rfl, show (ByteArray.mk #[72, 84, 84, 80, 47, 49, 46, 49, 32]).size = 9 from rfl]; omega)) ?_
    refine RW.op1 rfl (runs_assign rfl) ?_
    refine RW.done ?_
    refine AQ.next ?_
    refine CW.ret ?_
    refine AQ.ret1 rfl rfl ?_
    refine ⟨?_, hst.drop1⟩
    rw [List.take_of_length_le (by omega)]
    unfold printL
    rw [← strOf_append, ← strOf_append, strOfE]
    rfl
set_option maxRecDepth 100000 in
set_option maxHeartbeats 1000000 in
theorem refPrint_spec {w0 w : World} {I : Imm} {L : Own} (hst : St w0 w I L) (code : Int) (hc1 : 1 ≤ code) (hc2 : code ≤ 9223372036854775807) {v : Value} {hs : List HL} (hv : RdH I v (hs.map hrowL)) (hsm : SmL hs) (b : ByteArray) (hb : b.size ≤ 1099511627776) (cut : Bool) :
    Calls Tryd.prog 20 #[.agg #[.int .i64 code, v, .string b, .bool cut]] w fun e w' => e = .returned (.string (strOf (printL code.toNat hs b.toList))) ∧ St w0 w' I L := by
  obtain ⟨hA, hcap, hvv⟩ : ∃ A c, v = .slice A hs.length c := by obtain ⟨_, _, A, c, e, _⟩ := hv; rw [List.length_map] at e; exact ⟨A, c, e⟩
  subst hvv
  have hdr := digits_room (n := code) hc1 hc2
  have hl10 := hsm.1
  have hall := rows_take hsm hs.length
  have hpt : (printTop code.toNat).length ≤ 33 := by unfold printTop; simp only [List.length_append]; show 9 + _ + 2 + 2 ≤ _; omega
  refine enter Tryd.func20 rfl (N := 34) rfl rfl ?_
  simp only [List.zipIdx_cons, List.zipIdx_nil, List.map_cons, List.map_nil, Nat.zero_add, Nat.reduceAdd]
  have hle := Imm.le.refl I
  refine CW.seq ?_
  -- region 0
  refine CW.region ?_
  refine RW.opE rfl (runs_box rfl hst) ?_
  rintro _ w ⟨b1, rfl, hstn⟩
  clear hst
  have hst := hstn
  clear hstn
  refine RW.op1 rfl (runs_assign rfl) ?_
  refine RW.done ?_
  refine AQ.next ?_
  refine CW.seq ?_
  -- region 1
  refine CW.region ?_
  first
    | refine RW.op1 rfl (runs_fieldAddr0 rfl Tryd.underlying44 rfl ti3 (by decide)) ?_
    | refine RW.op1 rfl (runs_fieldAddr rfl Tryd.underlying44 rfl ti3 (by decide)) ?_
  first
    | refine RW.op1 rfl (runs_load1 sc3 rfl (hst.cell_own (k := 0) rfl rfl)) ?_
    | refine RW.op1 rfl (runs_load1 sc3 rfl (hst.cell_own (k := 1) rfl rfl)) ?_
    | refine RW.op1 rfl (runs_load1 sc3 rfl (hst.cell_own (k := 2) rfl rfl)) ?_
  refine RW.call rfl call36 rfl rfl (digits_spec hst code (by omega) hc2) ?_
  rintro e w ⟨rfl, hstn⟩
  clear hst
  have hst := hstn
  clear hstn
  refine ⟨_, rfl, ?_⟩
  refine RW.op1 rfl (runs_addS rfl rfl (by simp only [ByteArray.size_append, strOfZ, hrowL, List.length_append, show (ByteArray.mk #[58, 32]).size = 2 from rfl, show (ByteArray.mk #[13, 10]).size = 2 from rfl, show (ByteArray.mk #[32, 45]).size = 2 from rfl, show (ByteArray.mk #[72, 84, 84, 80, 47, 49, 46, 49, 32]).size = 9 from rfl]; omega)) ?_
  refine RW.op1 rfl (runs_addS rfl rfl (by simp only [ByteArray.size_append, strOfZ, hrowL, List.length_append, show (ByteArray.mk #[58, 32]).size = 2 from rfl, show (ByteArray.mk #[13, 10]).size = 2 from rfl, show (ByteArray.mk #[32, 45]).size = 2 from rfl, show (ByteArray.mk #[72, 84, 84, 80, 47, 49, 46, 49, 32]).size = 9 from rfl]; omega)) ?_
  refine RW.op1 rfl (runs_addS rfl rfl (by simp only [ByteArray.size_append, strOfZ, hrowL, List.length_append, show (ByteArray.mk #[58, 32]).size = 2 from rfl, show (ByteArray.mk #[13, 10]).size = 2 from rfl, show (ByteArray.mk #[32, 45]).size = 2 from rfl, show (ByteArray.mk #[72, 84, 84, 80, 47, 49, 46, 49, 32]).size = 9 from rfl]; omega)) ?_
  refine RW.op1 rfl (runs_assign rfl) ?_
  refine RW.done ?_
  refine AQ.next ?_
  refine CW.seq ?_
  refine CW.seq ?_
  -- region 2
  refine CW.region ?_
  first
    | refine RW.op1 rfl (runs_fieldAddr0 rfl Tryd.underlying44 rfl ti23 (by decide)) ?_
    | refine RW.op1 rfl (runs_fieldAddr rfl Tryd.underlying44 rfl ti23 (by decide)) ?_
  first
    | refine RW.op1 rfl (runs_load1 sc23 rfl (hst.cell_own (k := 0) rfl rfl)) ?_
    | refine RW.op1 rfl (runs_load1 sc23 rfl (hst.cell_own (k := 1) rfl rfl)) ?_
    | refine RW.op1 rfl (runs_load1 sc23 rfl (hst.cell_own (k := 2) rfl rfl)) ?_
  refine RW.op1 rfl (runs_lenL Tryd.underlying23 rfl) ?_
  refine RW.op1 rfl (runs_move rfl) ?_
  refine RW.done ?_
  refine AQ.next ?_
  refine CW.block ?_
  -- loop 1
  refine CW.loop Nat (fun k w => St w0 w I ([(b1, Obj.cells (Value.agg #[.int .i64 code, .slice hA hs.length hcap, .string b, .bool cut]).cells 44)] ++ L) ∧ k ≤ hs.length) (fun k => [(1, .pointer (some ⟨b1, 0, none⟩)), (3, .string (strOf (printTop code.toNat ++ (hs.take k).flatMap printRow))), (13, .slice hA hs.length hcap), (14, .int .i64 (hs.length : Nat)), (15, .int .i64 (k : Int))]) (fun k => hs.length - k) ⟨0, ⟨hst, Nat.zero_le _⟩, ⟨rfl, (by rw [List.take_zero, List.flatMap_nil, List.append_nil]; unfold printTop; rw [← strOf_append, ← strOf_append, ← strOf_append]; rfl), rfl, rfl, rfl, trivial⟩⟩ ?_
  rintro k w ⟨hstn, hk⟩
  clear hst
  have hst := hstn
  clear hstn
  refine CW.seq ?_
  -- region 3
  refine CW.region ?_
  refine RW.op1 rfl (runs_lss rfl rfl) ?_
  refine RW.done ?_
  refine AQ.next ?_
  refine CW.seq ?_
  refine CW.cond rfl (fun hc16 => ?_) (fun hc16 => ?_)
  · have hcb16 := hc16
    try simp only [decide_eq_true_eq, decide_eq_false_iff_not] at hc16
    have hk1 : k < hs.length := by omega
    obtain ⟨⟨hn, hd⟩, hr⟩ : ∃ r, hs[k] = r := ⟨_, rfl⟩
    have hr2 : hs[k]? = some (hn, hd) := by rw [List.getElem?_eq_getElem hk1, hr]
    have hr3 : (hs.map hrowL)[k]? = some (hrowL (hn, hd)) := by rw [List.getElem?_map, hr2]; rfl
    have hs2 := hsm.2 (hn, hd) (List.mem_of_getElem? hr2)
    dsimp only at hs2
    have hrt := rows_take hsm k
    have hfn := flat_next hr2
    refine CW.skip ?_
    refine AQ.next ?_
    refine CW.seq ?_
    refine CW.block ?_
    refine CW.seq ?_
    -- region 4
    refine CW.region ?_
    refine RW.op1 rfl (RdL.indexAddr Tryd.underlying23 ti27 (by decide) rfl rfl hv (by rw [List.length_map]; omega)) ?_
    refine RW.op1 rfl (RdL.loadRow (row := hrow (hrowL (hn, hd))) ag27 ti27 rfl hv hst rfl (hrow_at hr3)) ?_
    refine RW.opE rfl (runs_alloc ti27 hst) ?_
    rintro _ w ⟨b3, rfl, hstn⟩
    clear hst
    have hst := hstn
    clear hstn
    first
      | refine RW.opE0 (runs_storeW ti27 rfl rfl hst (k := 0) rfl rfl rfl (NoFz.zero _) rfl) ?_
      | refine RW.opE0 (runs_storeP ti27 rfl rfl hst (k := 0) rfl rfl rfl (NoFz.zero _) rfl) ?_
      | refine RW.opE0 (runs_storeW ti27 rfl rfl hst (k := 1) rfl rfl rfl (NoFz.zero _) rfl) ?_
      | refine RW.opE0 (runs_storeP ti27 rfl rfl hst (k := 1) rfl rfl rfl (NoFz.zero _) rfl) ?_
      | refine RW.opE0 (runs_storeW ti27 rfl rfl hst (k := 2) rfl rfl rfl (NoFz.zero _) rfl) ?_
      | refine RW.opE0 (runs_storeP ti27 rfl rfl hst (k := 2) rfl rfl rfl (NoFz.zero _) rfl) ?_
    rintro w hstn
    clear hst
    have hst := hstn
    clear hstn
    try simp only [List.set_cons_zero, List.set_cons_succ] at hst
    refine RW.done ?_
    refine AQ.next ?_
    -- region 5
    refine CW.region ?_
    refine RW.op1 rfl (runs_move rfl) ?_
    first
      | refine RW.op1 rfl (runs_fieldAddr0 rfl Tryd.underlying27 rfl ti9 (by decide)) ?_
      | refine RW.op1 rfl (runs_fieldAddr rfl Tryd.underlying27 rfl ti9 (by decide)) ?_
    first
      | refine RW.op1 rfl (runs_load1 sc9 rfl (hst.cell_own (k := 0) rfl rfl)) ?_
      | refine RW.op1 rfl (runs_load1 sc9 rfl (hst.cell_own (k := 1) rfl rfl)) ?_
      | refine RW.op1 rfl (runs_load1 sc9 rfl (hst.cell_own (k := 2) rfl rfl)) ?_
    refine RW.op1 rfl (runs_addS rfl rfl (by simp only [ByteArray.size_append, strOfZ, hrowL, List.length_append, show (ByteArray.mk #[58, 32]).size = 2 from rfl, show (ByteArray.mk #[13, 10]).size = 2 from rfl, show (ByteArray.mk #[32, 45]).size = 2 from rfl, show (ByteArray.mk #[72, 84, 84, 80, 47, 49, 46, 49, 32]).size = 9 from rfl]; omega)) ?_
    first
      | refine RW.op1 rfl (runs_fieldAddr0 rfl Tryd.underlying27 rfl ti9 (by decide)) ?_
      | refine RW.op1 rfl (runs_fieldAddr rfl Tryd.underlying27 rfl ti9 (by decide)) ?_
    first
      | refine RW.op1 rfl (runs_load1 sc9 rfl (hst.cell_own (k := 0) rfl rfl)) ?_
      | refine RW.op1 rfl (runs_load1 sc9 rfl (hst.cell_own (k := 1) rfl rfl)) ?_
      | refine RW.op1 rfl (runs_load1 sc9 rfl (hst.cell_own (k := 2) rfl rfl)) ?_
    refine RW.op1 rfl (runs_addS rfl rfl (by simp only [ByteArray.size_append, strOfZ, hrowL, List.length_append, show (ByteArray.mk #[58, 32]).size = 2 from rfl, show (ByteArray.mk #[13, 10]).size = 2 from rfl, show (ByteArray.mk #[32, 45]).size = 2 from rfl, show (ByteArray.mk #[72, 84, 84, 80, 47, 49, 46, 49, 32]).size = 9 from rfl]; omega)) ?_
    refine RW.op1 rfl (runs_addS rfl rfl (by simp only [ByteArray.size_append, strOfZ, hrowL, List.length_append, show (ByteArray.mk #[58, 32]).size = 2 from rfl, show (ByteArray.mk #[13, 10]).size = 2 from rfl, show (ByteArray.mk #[32, 45]).size = 2 from rfl, show (ByteArray.mk #[72, 84, 84, 80, 47, 49, 46, 49, 32]).size = 9 from rfl]; omega)) ?_
    refine RW.op1 rfl (runs_addS rfl rfl (by simp only [ByteArray.size_append, strOfZ, hrowL, List.length_append, show (ByteArray.mk #[58, 32]).size = 2 from rfl, show (ByteArray.mk #[13, 10]).size = 2 from rfl, show (ByteArray.mk #[32, 45]).size = 2 from rfl, show (ByteArray.mk #[72, 84, 84, 80, 47, 49, 46, 49, 32]).size = 9 from rfl]; omega)) ?_
    refine RW.op1 rfl (runs_assign rfl) ?_
    refine RW.done ?_
    refine AQ.block_normal ?_
    refine AQ.next ?_
    -- region 6
    refine CW.region ?_
    refine RW.op1 rfl (runs_add rfl rfl (by omega)) ?_
    refine RW.op1 rfl (runs_move rfl) ?_
    refine RW.done ?_
    exact AQ.again (x := k) (k + 1) ⟨hst.drop1, by omega⟩ ⟨rfl, (by rw [hfn, ← List.append_assoc, ← row_str2]; rfl), rfl, rfl, rfl, trivial⟩ (by omega)
  · have hcb16 := hc16
    try simp only [decide_eq_true_eq, decide_eq_false_iff_not] at hc16
    skip
    refine CW.exit ?_
    refine AQ.past_exit ?_
    refine AQ.past_exit ?_
    refine AQ.block_hit ?_
    refine AQ.next ?_
    refine CW.seq ?_
    -- region 7
    refine CW.region ?_
    have hrt := rows_take hsm k
    refine RW.op1 rfl (runs_move rfl) ?_
    refine RW.op1 rfl (runs_addS rfl rfl (by simp only [ByteArray.size_append, strOfZ, hrowL, List.length_append, show (ByteArray.mk #[58, 32]).size = 2 from rfl, show (ByteArray.mk #[13, 10]).size = 2 from rfl, show (ByteArray.mk #[32, 45]).size = 2 from rfl, show (ByteArray.mk #[72, 84, 84, 80, 47, 49, 46, 49, 32]).size = 9 from rfl]; omega)) ?_
    first
      | refine RW.op1 rfl (runs_fieldAddr0 rfl Tryd.underlying44 rfl ti9 (by decide)) ?_
      | refine RW.op1 rfl (runs_fieldAddr rfl Tryd.underlying44 rfl ti9 (by decide)) ?_
    first
      | refine RW.op1 rfl (runs_load1 sc9 rfl (hst.cell_own (k := 0) rfl rfl)) ?_
      | refine RW.op1 rfl (runs_load1 sc9 rfl (hst.cell_own (k := 1) rfl rfl)) ?_
      | refine RW.op1 rfl (runs_load1 sc9 rfl (hst.cell_own (k := 2) rfl rfl)) ?_
    refine RW.op1 rfl (runs_addS rfl rfl (by simp only [ByteArray.size_append, strOfZ, hrowL, List.length_append, show (ByteArray.mk #[58, 32]).size = 2 from rfl, show (ByteArray.mk #[13, 10]).size = 2 from rfl, show (ByteArray.mk #[32, 45]).size = 2 from rfl, show (ByteArray.mk #[72, 84, 84, 80, 47, 49, 46, 49, 32]).size = 9 from rfl]; omega)) ?_
    refine RW.op1 rfl (runs_assign rfl) ?_
    refine RW.done ?_
    refine AQ.next ?_
    refine CW.ret ?_
    refine AQ.ret1 rfl rfl ?_
    refine ⟨?_, hst.drop1⟩
    rw [List.take_of_length_le (by omega)]
    unfold printL
    rw [← strOf_append, ← strOf_append, strOfE]
    rfl
end Go.Proofs.YtfjghkmapccjhaaDoorX
