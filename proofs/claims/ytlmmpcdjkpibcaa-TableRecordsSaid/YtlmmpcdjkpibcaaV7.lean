/- A record that puts an item: the iterator over parts, the record, what it is read as. -/
import Derived.Test.YtlmmpcdjkpibcaaT
import Derived.Test.YtlmmpcdjkpibcaaV6
import Derived.Test.YtlmmpcdjkpibcaaXR
namespace Go.Proofs.YtlmmpcdjkpibcaaX
set_option linter.unusedVariables false
set_option linter.unusedSimpArgs false
open Go Go.RowKit Go.Proofs

theorem Grow.one {e : TypeId} {size n : Nat} {v : Value} {xs : List Value} {Lv : Own} (h : Grow e size v n xs Lv) : v.oneCell' = true := by
  obtain ⟨_, _, ⟨rfl, _⟩ | ⟨g, cap, cur, rfl, _⟩⟩ := h <;> rfl
theorem Grow.src {w0 w : World} {I : Imm} {L Lv : Own} {e : TypeId} {size n : Nat} {v : Value} {xs : List Value} (hg : Grow e size v n xs Lv) (hst : St w0 w I (Lv ++ L)) : ∃ B c, v = .slice B n c ∧ ∀ j u, xs[j]? = some u → ∃ a, B = some a ∧ w.cell? (a.add j) = some u := by
  have hc := fun j u hj => Grow.cell hg hst (fun p hp => List.mem_append_left _ hp) (j := j) (u := u) hj
  obtain ⟨h1, _, ⟨rfl, rfl, rfl⟩ | ⟨g, cap, cur, rfl, rfl, _⟩⟩ := hg
  · obtain rfl : xs = [] := List.eq_nil_of_length_eq_zero (by simpa using h1)
    exact ⟨none, 0, rfl, fun j u hj => by simp at hj⟩
  · exact ⟨_, cap, rfl, fun j u hj => ⟨_, rfl, hc j u hj⟩⟩

def ckHi (n k : Nat) : Nat := min (200 * (k + 1)) n
/-- The k-th part of bytes, as the iterator hands it out. -/
def encC (A : Option Addr) (n k : Nat) : Value := sliced A (200 * k) (ckHi n k) (ckHi n k) 1
def ckL (b : List UInt8) (k : Nat) : List UInt8 := (b.drop (200 * k)).take (ckHi b.length k - 200 * k)
def ckCnt (n : Nat) : Nat := (n + 199) / 200
theorem permAB {α : Type} {X Y R : List α} : (X ++ (Y ++ R)).Perm (Y ++ (X ++ R)) := by
  rw [← List.append_assoc, ← List.append_assoc]
  exact List.perm_append_comm.append_right R
theorem permC {α : Type} {X Y Q : List α} {a : α} : (X ++ a :: (Y ++ Q)).Perm (Y ++ (X ++ a :: Q)) := by
  have h2 := permAB (X := X ++ [a]) (Y := Y) (R := Q)
  simpa using h2
set_option maxRecDepth 100000 in
set_option maxHeartbeats 1000000 in
theorem chunk1_spec {w : World} (r : Nat) {A : Option Addr} {n c bA bB : Nat} (hn : n ≤ c) (hn2 : n ≤ 1000000000000) (hab : bA ≠ bB) (J : Nat → World → Prop) (hdr : ∀ k W, J k W → J k { W with drawn := W.drawn + 1 }) (hcap : ∀ k W, J k W → W.heap[bA]? = some (.cells #[.slice A n c] 43) ∧ W.heap[bB]? = some (.cells #[.int .i64 200] 3)) (hround : ∀ k W1, J k W1 → 200 * k < n → YieldAt (FW none) 3 Try.prog r #[encC A n k] W1 fun e W' => e = .returned (.bool true) ∧ J (k + 1) W') (h0 : J 0 w) :
    Calls Try.prog 69 #[.func (.yield r) #[] #[], .pointer (some ⟨bA, 0, none⟩), .pointer (some ⟨bB, 0, none⟩)] w fun e w' => (∃ v, e = .returned v) ∧ ∃ k, J k w' ∧ n ≤ 200 * k ∧ (k = 0 ∨ 200 * (k - 1) < n) := by
  have I : Imm := fun _ => none
  refine enter Try.func69 rfl (N := 31) rfl rfl ?_
  simp only [List.zipIdx_cons, List.zipIdx_nil, List.map_cons, List.map_nil, Nat.zero_add, Nat.reduceAdd]
  have hle := Imm.le.refl I
  refine CW.seq ?_
  -- region 0
  refine CW.region ?_
  refine RW.op1 rfl (runs_assign rfl) ?_
  refine RW.done ?_
  refine AQ.next ?_
  refine CW.block ?_
  -- loop 1
  refine CW.loop Nat (fun k w => J k w ∧ (k = 0 ∨ 200 * (k - 1) < n)) (fun k => [(0, .func (.yield r) #[] #[]), (1, .pointer (some ⟨bA, 0, none⟩)), (2, .pointer (some ⟨bB, 0, none⟩)), (4, .int .i64 ((200 * k : Nat) : Int))]) (fun k => n - 200 * k) ⟨0, ⟨h0, .inl rfl⟩, ⟨rfl, rfl, rfl, rfl, trivial⟩⟩ ?_
  rintro k w ⟨hJ, hk⟩
  have hst := St.two (hcap k w hJ).1 (hcap k w hJ).2 hab
  refine CW.seq ?_
  refine CW.seq ?_
  -- region 1
  refine CW.region ?_
  refine RW.op1 rfl (runs_move rfl) ?_
  first
    | refine RW.op1 rfl (runs_load1 sc43 rfl (hst.cell_own (k := 0) rfl rfl)) ?_
    | refine RW.op1 rfl (runs_load1 sc43 rfl (hst.cell_own (k := 1) rfl rfl)) ?_
    | refine RW.op1 rfl (runs_load1 sc43 rfl (hst.cell_own (k := 2) rfl rfl)) ?_
  refine RW.op1 rfl (runs_lenL Try.underlying43 rfl) ?_
  refine RW.op1 rfl (runs_lss rfl rfl) ?_
  refine RW.done ?_
  refine AQ.next ?_
  refine CW.cond rfl (fun hc9 => ?_) (fun hc9 => ?_)
  · have hcb9 := hc9
    try simp only [decide_eq_true_eq, decide_eq_false_iff_not] at hc9
    have hlt : 200 * k < n := by omega
    have hhi : ckHi n k ≤ n ∧ 200 * k ≤ ckHi n k ∧ ckHi n k - 200 * k ≤ 200 ∧ (ckHi n k = 200 * (k + 1) ∨ ckHi n k = n) := by unfold ckHi; omega
    refine CW.skip ?_
    refine AQ.next ?_
    refine CW.seq ?_
    refine CW.block ?_
    refine CW.seq ?_
    -- region 3
    have hJd := hdr k w hJ
    refine CW.draw (fun W => St W W (fun _ => none) [(bA, Obj.cells #[.slice A n c] 43), (bB, Obj.cells #[.int .i64 200] 3)]) (.q 0 (.q 1 (.q 2 (.q 3 (.q 4 (.q 5 (.q 6 .nil))))))) follows (by kernel_rfl) (St.two (hcap k _ hJd).1 (hcap k _ hJd).2 hab) ?_
    replace hst := St.two (hcap k _ hJd).1 (hcap k _ hJd).2 hab
    refine DRW.q rfl rfl (fun w' hF => runs_load1 sc3 rfl (hF.cell_own (k := 1) rfl rfl)) ?_
    refine DRW.q rfl rfl (fun w' hF => runs_load1 sc43 rfl (hF.cell_own (k := 0) rfl rfl)) ?_
    refine DRW.q rfl rfl (fun w' hF => runs_move rfl) ?_
    refine DRW.q rfl rfl (fun w' hF => runs_slice_l Try.underlying43 ti5 rfl rfl (by omega)) ?_
    refine DRW.q rfl rfl (fun w' hF => runs_lenL Try.underlying43 rfl) ?_
    refine DRW.q rfl rfl (fun w' hF => runs_min rfl rfl) ?_
    obtain ⟨mm, hmm⟩ : ∃ mm, (if (((n - ((200 * k : Nat) : Int).toNat : Nat) : Int)) < 200 then ((n - ((200 * k : Nat) : Int).toNat : Nat) : Int) else 200) = mm := ⟨_, rfl⟩
    have hmv : mm = ((ckHi n k - 200 * k : Nat) : Int) := by rw [← hmm]; unfold ckHi; split <;> omega
    rw [hmm, hmv]
    refine DRW.q rfl rfl (fun w' hF => runs_assign rfl) ?_
    refine DRW.done ?_
    refine AQ.next ?_
    refine CW.seq ?_
    -- region 4
    refine CW.ofI 4 ?_
    refine CWI.region ?_
    refine RWI.op1 rfl (by intro c h; cases h) (runs_move rfl) ?_
    first
      | refine RWI.op1 rfl (by intro c h; cases h) (runs_load1 sc43 rfl (hst.cell_own (k := 0) rfl rfl)) ?_
      | refine RWI.op1 rfl (by intro c h; cases h) (runs_load1 sc43 rfl (hst.cell_own (k := 1) rfl rfl)) ?_
      | refine RWI.op1 rfl (by intro c h; cases h) (runs_load1 sc43 rfl (hst.cell_own (k := 2) rfl rfl)) ?_
    refine RWI.op1 rfl (by intro c h; cases h) (runs_move rfl) ?_
    refine RWI.op1 rfl (by intro c h; cases h) (runs_move rfl) ?_
    refine RWI.op1 rfl (by intro c h; cases h) (runs_move rfl) ?_
    refine RWI.op1 rfl (by intro c h; cases h) (runs_add rfl rfl (by omega)) ?_
    refine RWI.op1 rfl (by intro c h; cases h) (runs_move rfl) ?_
    refine RWI.op1 rfl (by intro c h; cases h) (runs_move rfl) ?_
    refine RWI.op1 rfl (by intro c h; cases h) (runs_add rfl rfl (by omega)) ?_
    refine RWI.op1 rfl (by intro c h; cases h) (runs_slice_lhm Try.underlying43 ti5 rfl rfl rfl rfl (by omega)) ?_
    rw [show sliced A ((200 * k : Nat) : Int).toNat (((200 * k : Nat) : Int) + ((ckHi n k - 200 * k : Nat) : Int)).toNat (((200 * k : Nat) : Int) + ((ckHi n k - 200 * k : Nat) : Int)).toNat 1 = encC A n k by unfold encC; congr 1 <;> omega]
    refine RWI.yield (n := 4) rfl rfl rfl (hround k _ hJd hlt) ?_
    rintro e w ⟨rfl, hJ2⟩
    refine ⟨_, rfl, ?_⟩
    refine RWI.op1 rfl (by intro c h; cases h) (runs_not rfl) ?_
    refine RWI.done ?_
    refine AQ.next ?_
    refine CW.cond rfl (fun hc => absurd hc (by decide)) (fun hc => ?_)
    refine CW.skip ?_
    refine AQ.block_normal ?_
    refine AQ.next ?_
    -- region 2
    refine CW.region ?_
    have hst := St.two (hcap _ w hJ2).1 (hcap _ w hJ2).2 hab
    refine RW.op1 rfl (runs_move rfl) ?_
    first
      | refine RW.op1 rfl (runs_load1 sc3 rfl (hst.cell_own (k := 0) rfl rfl)) ?_
      | refine RW.op1 rfl (runs_load1 sc3 rfl (hst.cell_own (k := 1) rfl rfl)) ?_
      | refine RW.op1 rfl (runs_load1 sc3 rfl (hst.cell_own (k := 2) rfl rfl)) ?_
    refine RW.op1 rfl (runs_add rfl rfl (by omega)) ?_
    refine RW.op1 rfl (runs_assign rfl) ?_
    refine RW.done ?_
    exact AQ.again (x := k) (k + 1) ⟨hJ2, .inr (by rw [Nat.add_sub_cancel]; exact hlt)⟩ ⟨rfl, rfl, rfl, congrArg (fun z => some (Value.int .i64 z)) (by omega), trivial⟩ (by omega)
  · have hcb9 := hc9
    try simp only [decide_eq_true_eq, decide_eq_false_iff_not] at hc9
    have hge : n ≤ 200 * k := by omega
    refine CW.exit ?_
    refine AQ.past_exit ?_
    refine AQ.past_exit ?_
    refine AQ.block_hit ?_
    refine AQ.end0 rfl ?_
    exact ⟨⟨_, rfl⟩, k, hJ, hge, hk⟩
set_option maxRecDepth 100000 in
set_option maxHeartbeats 1000000 in
theorem chunkF_spec {w0 w : World} {I : Imm} {L : Own} (hst : St w0 w I L) (A : Option Addr) (n c : Nat) :
    Calls Try.prog 42 #[.slice A n c, .int .i64 200] w fun e w' => ∃ bA bB, e = .returned (.func (.func 69) #[] #[.pointer (some ⟨bA, 0, none⟩), .pointer (some ⟨bB, 0, none⟩)]) ∧ St w0 w' I ((bB, .cells #[.int .i64 200] 3) :: (bA, .cells #[.slice A n c] 43) :: L) := by
  refine enter Try.func42 rfl (N := 9) rfl rfl ?_
  simp only [List.zipIdx_cons, List.zipIdx_nil, List.map_cons, List.map_nil, Nat.zero_add, Nat.reduceAdd]
  have hle := Imm.le.refl I
  refine CW.seq ?_
  -- region 0
  refine CW.region ?_
  refine RW.opE rfl (runs_box rfl hst) ?_
  rintro _ w ⟨b1, rfl, hstn⟩
  clear hst
  have hst := hstn
  clear hstn
  refine RW.opE rfl (runs_box rfl hst) ?_
  rintro _ w ⟨b2, rfl, hstn⟩
  clear hst
  have hst := hstn
  clear hstn
  refine RW.op1 rfl (runs_assign rfl) ?_
  refine RW.done ?_
  refine AQ.next ?_
  refine CW.seq ?_
  refine CW.seq ?_
  -- region 1
  refine CW.region ?_
  first
    | refine RW.op1 rfl (runs_load1 sc3 rfl (hst.cell_own (k := 0) rfl rfl)) ?_
    | refine RW.op1 rfl (runs_load1 sc3 rfl (hst.cell_own (k := 1) rfl rfl)) ?_
    | refine RW.op1 rfl (runs_load1 sc3 rfl (hst.cell_own (k := 2) rfl rfl)) ?_
  refine RW.op1 rfl (runs_lss rfl rfl) ?_
  refine RW.done ?_
  refine AQ.next ?_
  refine CW.cond rfl (fun hc => absurd hc (by decide)) (fun hc => ?_)
  refine CW.skip ?_
  refine AQ.next ?_
  refine CW.seq ?_
  -- region 3
  refine CW.region ?_
  refine RW.op1 rfl (runs_makeFunc (vs := [_, _]) rfl) ?_
  refine RW.op1 rfl (runs_assign rfl) ?_
  refine RW.done ?_
  refine AQ.next ?_
  refine CW.ret ?_
  refine AQ.ret1 rfl rfl ?_
  exact ⟨b1, b2, rfl, hst⟩
theorem ckCnt_take {n k : Nat} (hk : k < ckCnt n) : ∃ t, List.range (ckCnt n) = List.range k ++ k :: t := by
  refine ⟨(List.range (ckCnt n)).drop (k + 1), ?_⟩
  have h1 : (List.range (ckCnt n)).take k = List.range k := by rw [List.take_range, Nat.min_eq_left (by omega)]
  have h2 : (List.range (ckCnt n)).drop k = k :: (List.range (ckCnt n)).drop (k + 1) := by
    rw [List.drop_eq_getElem_cons (by rw [List.length_range]; exact hk), List.getElem_range]
  rw [← h1, ← h2, List.take_append_drop]
theorem chunk_gives {A : Option Addr} {n c bA bB : Nat} (hn : n ≤ c) (hn2 : n ≤ 1000000000000) (hab : bA ≠ bB) :
    Gives Try.prog 69 #[.pointer (some ⟨bA, 0, none⟩), .pointer (some ⟨bB, 0, none⟩)] (encC A n) (fun W => W.heap[bA]? = some (.cells #[.slice A n c] 43) ∧ W.heap[bB]? = some (.cells #[.int .i64 200] 3)) (List.range (ckCnt n)) := by
  intro r J W h1 h2 h3 h4
  have h := chunk1_spec (w := W) r hn hn2 hab (fun k W => J (List.range k) W) (fun k W hj => h1 _ W 1 hj) (fun k W hj => h2 _ W hj) (fun k W1 hj hlt => by
    have := h3 (List.range k) k W1 hj (ckCnt_take (by unfold ckCnt; omega))
    rw [List.range_succ]
    exact this) h4
  refine Calls.mono h ?_
  rintro e w' ⟨he, k, hj, h5, h6⟩
  have hk : k = ckCnt n := by unfold ckCnt; omega
  rw [hk] at hj
  exact ⟨he, hj⟩
theorem RdB.ck {I : Imm} {A : Option Addr} {c : Nat} {b : List UInt8} (h : RdB I (.slice A b.length c) b) {k : Nat} (hk : k < ckCnt b.length) : RdB I (encC A b.length k) (ckL b k) := by
  have hh : ckHi b.length k ≤ b.length ∧ 200 * k ≤ ckHi b.length k := by unfold ckHi ckCnt at *; omega
  have h1 := RdL.cut h hh.2 hh.1
  unfold RdB encC ckL
  have hl : ((b.drop (200 * k)).take (ckHi b.length k - 200 * k)).length = ckHi b.length k - 200 * k := by rw [List.length_take, List.length_drop]; omega
  rw [hl, List.map_take, List.map_drop]
  simpa using h1
def putS : ByteArray := ⟨#[112, 117, 116]⟩
def recAV (b : List UInt8) (n : Nat) : List AV := .txt putS :: (List.range n).map fun k => .txt (strOf (ckL b k))
/-- The record that puts an item. -/
def recB (it : It) : List UInt8 := encA (recAV (encA (itAV it)) (ckCnt (encA (itAV it)).length))
theorem ckL_len (b : List UInt8) (k : Nat) : (ckL b k).length ≤ 200 := by
  unfold ckL ckHi
  rw [List.length_take, List.length_drop]
  omega
theorem recAV_good (b : List UInt8) (n : Nat) : ∀ a ∈ recAV b n, a.good 255 false := by
  intro a ha
  unfold recAV at ha
  rcases List.mem_cons.1 ha with rfl | ha
  · exact (by decide : putS.size ≤ 255)
  · obtain ⟨k, _, rfl⟩ := List.mem_map.1 ha
    show (strOf (ckL b k)).size ≤ 255
    rw [strOf_size]
    have := ckL_len b k
    omega
theorem recAV_len (b : List UInt8) (n : Nat) : (recAV b n).length = n + 1 := by simp [recAV]
theorem encA_len_le {av : List AV} (h : encOk av = true) : (encA av).length ≤ av.length * 257 := encA_le h
set_option maxRecDepth 100000 in
set_option maxHeartbeats 4000000 in
theorem putrec_spec {w0 w : World} {I : Imm} {L : Own} (hst : St w0 w I L) {it : It} {vh : Value} (hv : RdH I vh it.heads) (hok : ItOk it) :
    Calls Try.prog 20 #[itv it vh] w fun e w' => ∃ I' v', I.le I' ∧ e = .returned (.tuple #[v', .int .i64 (if encOk (itAV it) then 0 else 1)]) ∧ St w0 w' I' L ∧ RdB I' v' (if encOk (itAV it) then recB it else []) := by
  obtain ⟨A0, c0, rfl⟩ : ∃ A c, vh = .slice A it.heads.length c := by obtain ⟨_, _, A, c, e, _⟩ := hv; exact ⟨A, c, e⟩
  refine enterM Try.func20 rfl (N := 31) rfl rfl ?_
  simp only [List.zipIdx_cons, List.zipIdx_nil, List.map_cons, List.map_nil, Nat.zero_add, Nat.reduceAdd]
  have hle := Imm.le.refl I
  refine CW.seq ?_
  -- region 0
  refine CW.region ?_
  refine RW.opE rfl (runs_box rfl hst) ?_
  rintro _ w ⟨b1, rfl, hstn⟩
  clear hst
  have hst := hstn
  clear hstn
  refine RW.op1 rfl (runs_assign rfl) ?_
  refine RW.op1 rfl (runs_assign rfl) ?_
  refine RW.done ?_
  refine AQ.next ?_
  refine CW.seq ?_
  -- region 1
  refine CW.region ?_
  first
    | refine RW.op1 rfl (runs_loadN (vs := _) ag36 ti36 rfl hst (k := 0) rfl rfl rfl) ?_
    | refine RW.op1 rfl (runs_loadN (vs := _) ag36 ti36 rfl hst (k := 1) rfl rfl rfl) ?_
    | refine RW.op1 rfl (runs_loadN (vs := _) ag36 ti36 rfl hst (k := 2) rfl rfl rfl) ?_
  refine RW.call rfl call41 rfl rfl (itenc_spec hst hv hok) ?_
  rintro e w ⟨J10, v10, hJ10, rfl, hstn, hv10⟩
  clear hst
  have hst := hstn
  clear hstn
  replace hv := hv.mono hJ10
  replace hle := hle.trans hJ10
  refine ⟨_, rfl, ?_⟩
  refine RW.op1 rfl (runs_move rfl) ?_
  refine RW.op1 rfl (runs_extract rfl rfl) ?_
  refine RW.op1 rfl (runs_extract rfl rfl) ?_
  refine RW.op1 rfl (runs_assign rfl) ?_
  refine RW.op1 rfl (runs_assign rfl) ?_
  refine RW.done ?_
  refine AQ.next ?_
  refine CW.seq ?_
  refine CW.seq ?_
  -- region 2
  refine CW.region ?_
  refine RW.op1 rfl (runs_move rfl) ?_
  refine RW.op1 rfl (runs_neI rfl rfl) ?_
  refine RW.done ?_
  refine AQ.next ?_
  refine CW.cond rfl (fun hc14 => ?_) (fun hc14 => ?_)
  · have hcb14 := hc14
    try simp only [decide_eq_true_eq, decide_eq_false_iff_not] at hc14
    have ho : encOk (itAV it) = false := by
      cases h : encOk (itAV it) with
      | false => rfl
      | true => rw [h] at hcb14; simp at hcb14
    refine CW.seq ?_
    -- region 3
    refine CW.region ?_
    refine RW.op1 rfl (runs_move rfl) ?_
    refine RW.op1 rfl (runs_assign rfl) ?_
    refine RW.op1 rfl (runs_assign rfl) ?_
    refine RW.done ?_
    refine AQ.next ?_
    refine CW.ret ?_
    refine AQ.past_ret ?_
    refine AQ.ret2M rfl rfl rfl ?_
    rw [ho]
    exact ⟨J10, _, hle, rfl, hst.drop1, by rw [if_neg Bool.false_ne_true]; exact RdL.nil 1⟩
  · have hcb14 := hc14
    try simp only [decide_eq_true_eq, decide_eq_false_iff_not] at hc14
    have ho : encOk (itAV it) = true := by
      cases h : encOk (itAV it) with
      | true => rfl
      | false => rw [h] at hcb14; simp at hcb14
    rw [ho, if_pos rfl] at hv10
    obtain ⟨bb, hbb⟩ : ∃ b, encA (itAV it) = b := ⟨_, rfl⟩
    have hbl := encA_len_le ho
    have hal := itAV_len it
    have hhl := hok.len
    rw [hbb] at hv10 hbl
    have hb12 : bb.length ≤ 1000000000000 := by omega
    obtain ⟨A, c, rfl⟩ : ∃ A c, v10 = .slice A bb.length c := by obtain ⟨_, _, A, c, e, _⟩ := hv10; exact ⟨A, c, e⟩
    have hnc : bb.length ≤ c := by obtain ⟨_, _, A2, c2, e, hle2, _⟩ := hv10; cases e; exact hle2
    obtain ⟨o1, ho1⟩ : ∃ o, St w0 w J10 ((b1, o) :: L) := ⟨_, hst⟩
    clear hst
    have hst := ho1
    clear ho1
    refine CW.skip ?_
    refine AQ.next ?_
    refine CW.seq ?_
    -- region 4
    refine CW.region ?_
    refine RW.op1 rfl (runs_makeIface con9 rfl) ?_
    refine RW.opE rfl (runs_lit1 (xs := [AV.txt putS].map AV.v) Try.underlying50 ti20 (by decide) rfl rfl rfl (by simp [AV.v, Value.oneCell']) hst) ?_
    rintro v17 w ⟨Lv17, hstn, hgv⟩
    clear hst
    have hst := hstn
    clear hstn
    have hgo := Grow.one hgv
    refine RW.opE rfl (runs_alloc ti50 hst) ?_
    rintro _ w ⟨b4, rfl, hstn⟩
    clear hst
    have hst := hstn
    clear hstn
    refine RW.opE0 (runs_store1P ti50 rfl rfl hst (k := 0) rfl rfl (NoFz.zero _) hgo) ?_
    rintro w hstn
    clear hst
    have hst := hstn
    clear hstn
    try simp only [List.set_cons_zero, List.set_cons_succ] at hst
    refine RW.done ?_
    refine AQ.next ?_
    refine CW.seq ?_
    refine CW.seq ?_
    -- region 5
    refine CW.region ?_
    refine RW.op1 rfl (runs_move rfl) ?_
    refine RW.call rfl call42 rfl rfl (chunkF_spec hst A bb.length c) ?_
    rintro e w ⟨bA, bB, rfl, hstn⟩
    clear hst
    have hst := hstn
    clear hstn
    have hab : bA ≠ bB := by
      have := hst.nd
      simp only [List.map_cons, List.nodup_cons, List.mem_cons, not_or] at this
      exact fun e => this.1.1 e.symm
    refine ⟨_, rfl, ?_⟩
    refine RW.done ?_
    refine AQ.next ?_
    refine CW.block ?_
    refine CW.rangeF (α := Nat) (enc := encC A bb.length) (xs := List.range (ckCnt bb.length)) (I := J10) (L := (bB, Obj.cells #[.int .i64 200] 3) :: (bA, Obj.cells #[.slice A bb.length c] 43) :: (b1, o1) :: L) (Lc := (b4, Obj.cells #[v17] 50) :: Lv17) rfl call69 rfl rfl (chunk_gives hnc hb12 hab) (fun pre Lx => ∃ v Lv, Lx = (b4, Obj.cells #[v] 50) :: Lv ∧ GrowA v (.txt putS :: pre.map fun k => .txt (strOf (ckL bb k))) Lv) ⟨v17, Lv17, rfl, hgv⟩ (hst.perm (permAB (X := [(bB, _), (bA, _)]) (Y := (b4, _) :: Lv17) (R := (b1, o1) :: L))) (fun W A2 h => ⟨h.own (bA, _) (by simp), h.own (bB, _) (by simp)⟩) ?_ ?_
    · clear hst hgv
      rintro r pre k Lx W A2 ⟨v, Lv, rfl, hg⟩ ⟨t, ht⟩ hst
      have hk : k < ckCnt bb.length := List.mem_range.1 (by rw [ht]; simp)
      have hck := RdB.ck hv10 hk
      have hpl := congrArg List.length ht
      rw [List.length_range, List.length_append, List.length_cons] at hpl
      have hcc : ckCnt bb.length ≤ 6000000000 := by unfold ckCnt; omega
      have hgl : (AV.txt putS :: pre.map fun k => AV.txt (strOf (ckL bb k))).length = pre.length + 1 := by simp
      replace hst := hst.perm (permAB (X := A2) (Y := (b4, _) :: Lv))
      replace hst : St w0 W J10 ((b4, Obj.cells #[v] 50) :: (Lv ++ (A2 ++ ((bB, Obj.cells #[.int .i64 200] 3) :: (bA, Obj.cells #[.slice A bb.length c] 43) :: (b1, o1) :: L)))) := hst
      refine CWI.block ?_
      -- region 7
      refine CWI.region ?_
      refine RWI.op1 rfl (by intro c h; cases h) (runs_load1 sc50 rfl (hst.cell_own (k := 0) rfl rfl)) ?_
      refine RWI.op1 rfl (by intro c h; cases h) (runs_move rfl) ?_
      refine RWI.op1 rfl (by intro c h; cases h) (RdB.string Try.underlying43 Try.underlying5 Try.underlying9 rfl hck hst) ?_
      refine RWI.op1 rfl (by intro c h; cases h) (runs_makeIface con9 rfl) ?_
      refine RWI.opE rfl (by intro c h; cases h) (runs_lit1 (xs := [AV.txt (strOf (ckL bb k))].map AV.v) Try.underlying50 ti20 (by decide) rfl rfl rfl (by simp [AV.v, Value.oneCell']) hst) ?_
      rintro u7 w ⟨Lv7, hstn, hg7⟩
      clear hst
      have hst := hstn
      clear hstn
      obtain ⟨B25, c25, rfl, hs25⟩ := Grow.src hg7 hst
      replace hst := hst.perm permC
      refine RWI.opE rfl (by intro c h; cases h) (runs_appendG Try.underlying50 ti20 rfl (by decide) rfl rfl hst hg rfl hs25 (by simp [AV.v, Value.oneCell']) (by omega) (by unfold maxLen; omega)) ?_
      rintro uN w ⟨LvN, hstn, hgN⟩
      clear hst
      have hst := hstn
      clear hstn
      have hgo := Grow.one hgN
      replace hst := (hst.sub (List.Sublist.append (List.Sublist.refl _) (List.sublist_append_right _ _))).perm List.perm_middle
      refine RWI.opE0 (by intro c h; cases h) (runs_store1P ti50 rfl rfl hst (k := 0) rfl rfl (NoFz.zero _) hgo) ?_
      rintro w hstn
      clear hst
      have hst := hstn
      clear hstn
      try simp only [List.set_cons_zero, List.set_cons_succ] at hst
      refine RWI.done ?_
      refine AQ.block_normal ?_
      exact fun a ha => ⟨rfl, (b4, _) :: LvN, ⟨uN, LvN, rfl, by rw [List.map_append, ← List.cons_append]; exact GrowA.push hgN⟩, hst.perm (permAB (X := (b4, _) :: LvN) (Y := A2))⟩
    · clear hst hgv
      rintro D Lx w ⟨v, Lv, rfl, hg⟩ hst
      refine AQD.block_normal ?_
      refine AQD.next ?_
      refine CWD.seq ?_
      -- region 8
      refine CWD.region ?_
      refine RWD.op1 rfl (runs_load1 sc50 rfl (hst.cell_own (k := 1) rfl rfl)) ?_
      obtain ⟨J28, hJ28, hstn, hall⟩ := hg.freeze (hst.perm (permAB (X := [(D, _), (b4, _)]) (Y := Lv)))
      clear hst
      have hst := hstn
      clear hstn
      have hall2 : RdA J28 v (recAV bb (ckCnt bb.length)) := hall
      refine RWD.callR rfl call16 rfl rfl (enc_spec hst hall2 (recAV_good _ _) (by rw [recAV_len]; unfold ckCnt; omega)) ?_
      rintro e w ⟨J29, v28, hJ29, rfl, hstn, hv28⟩
      clear hst
      have hst := hstn
      clear hstn
      rw [good_encOk (recAV_good _ _) (Nat.le_refl _)] at hv28 ⊢
      refine ⟨_, rfl, ?_⟩
      refine RWD.op1 rfl (runs_extract rfl rfl) ?_
      refine RWD.op1 rfl (runs_extract rfl rfl) ?_
      refine RWD.op1 rfl (runs_assign rfl) ?_
      refine RWD.op1 rfl (runs_assign rfl) ?_
      refine RWD.done ?_
      refine AQD.next ?_
      refine CWD.ret ?_
      refine AQD.ret2M hst rfl rfl rfl ?_
      intro w' hst'
      rw [ho]
      refine ⟨J29, v28, hle.trans (hJ28.trans hJ29), rfl, hst'.drop1.drop1.drop1.drop1, ?_⟩
      rw [if_pos rfl]
      rw [if_pos rfl] at hv28
      unfold recB
      rw [hbb]
      exact hv28
end Go.Proofs.YtlmmpcdjkpibcaaX
