/- More rules: what is made with a size, written by its index, turned between strings and bytes. Own lemmas, no program in sight. -/
import Derived.Test.YtlmmpcdjkpibcaaX5
import Derived.Lib.ConvBytes
import Derived.Laws.BytesArg
namespace Go.Proofs.YtlmmpcdjkpibcaaX
set_option linter.unusedVariables false
set_option linter.unusedSimpArgs false
open Go Go.RowKit
variable {w0 w : World} {I : Imm} {L : Own} {P : Program} {l : Env} {ty : TypeId}

theorem RW.split {N : Nat} {ops : Array Oper} {Q : Exit → Act → World → Prop} {rest : List Oper} {t : Nat} {b : Bool} (hv : l.get t = some (.bool b)) (h1 : b = true → RW P N ops Q rest l w) (h2 : b = false → RW P N ops Q rest l w) : RW P N ops Q rest l w := by
  cases b
  · exact h2 rfl
  · exact h1 rfl
theorem wanted_undef {l : Env} {a : Act} {N : Nat} {ops : Array Oper} (ha : l.on N a) {o : Oper} {g t : Nat} {want : Bool} (hg : o.guard = some (g, want)) (ht : (ops[g]?).bind (·.dst) = some t)
    (hv : l.get t = some undef) (htN : Nat.blt t N = true) : Region.wanted o (yielded ops a.tmps) = false := by
  have hsz := ha.1
  have h1 := ha.2.2 t _ hv
  have htN' : t < a.tmps.size := by rw [hsz]; simpa [Nat.blt_eq] using htN
  have h2 : a.tmps[t]? = some undef := by
    rw [Array.getD_eq_getD_getElem?] at h1
    rw [Array.getElem?_eq_getElem htN'] at h1 ⊢
    simpa using h1
  unfold Region.wanted
  simp only [hg, yielded, ht, Option.bind_some, h2]
  rfl
/-- A guard that hangs on what was not done. -/
theorem RW.off_undef {N : Nat} {ops : Array Oper} {Q : Exit → Act → World → Prop} {rest : List Oper} {d g t : Nat} {o : Op} {ty : TypeId} {pos : String} {after : Array Edge} {want : Bool} (ht : (ops[g]?).bind (·.dst) = some t) (hv : l.get t = some undef) (htN : Nat.blt t N = true) (hd : Nat.blt d N = true)
    (h : RW P N ops Q rest ((d, undef) :: l) w) : RW P N ops Q (⟨some d, o, ty, pos, after, some (g, want)⟩ :: rest) l w := fun a ha => by
  unfold wpList
  rw [wanted_undef ha rfl ht hv htN]
  exact h _ (Env.on_put hd ha)
theorem RW.off_undef0 {N : Nat} {ops : Array Oper} {Q : Exit → Act → World → Prop} {rest : List Oper} {g t : Nat} {o : Op} {ty : TypeId} {pos : String} {after : Array Edge} {want : Bool} (ht : (ops[g]?).bind (·.dst) = some t) (hv : l.get t = some undef) (htN : Nat.blt t N = true)
    (h : RW P N ops Q rest l w) : RW P N ops Q (⟨none, o, ty, pos, after, some (g, want)⟩ :: rest) l w := fun a ha => by
  unfold wpList
  rw [wanted_undef ha rfl ht hv htN]
  exact h _ ha
theorem DRW.q_undef {N : Nat} {ops : Array Oper} {F : World → Prop} {Q : Act → World → Prop} {plan : Plan} {i d g t : Nat} {o : Op} {ty : TypeId} {pos : String} {after : Array Edge} {want : Bool} (ho : ops[i]? = some ⟨some d, o, ty, pos, after, some (g, want)⟩) (ht : (ops[g]?).bind (·.dst) = some t) (hv : l.get t = some undef) (htN : Nat.blt t N = true) (hd : Nat.blt d N = true)
    (h : DRW P N ops F Q plan ((d, undef) :: l) w) : DRW P N ops F Q (.q i plan) l w := fun a ha =>
  ⟨_, undef, ho, .inr ⟨wanted_undef ha rfl ht hv htN, rfl⟩, h _ (Env.on_put hd ha)⟩
theorem DRW.split {N : Nat} {ops : Array Oper} {F : World → Prop} {Q : Act → World → Prop} {plan : Plan} {t : Nat} {b : Bool} (hv : l.get t = some (.bool b)) (h1 : b = true → DRW P N ops F Q plan l w) (h2 : b = false → DRW P N ops F Q plan l w) : DRW P N ops F Q plan l w := by
  cases b
  · exact h2 rfl
  · exact h1 rfl
theorem runs_indexAddr0 {t e : TypeId} {x y : Operand} {b off n c : Nat} {k : IntKind} {i : Int} {z : Value} {size bytes : Nat} (ht : P.underlying t = some (.slice e)) (he : TI P e z size bytes) (hx : ev l x = some (.slice (some ⟨b, off, none⟩) n c)) (hy : ev l y = some (.int k i))
    (h : 0 ≤ i ∧ i < n) : Runs P (.indexAddr t x y) ty l w (.value (.pointer (some ⟨b, off + i.toNat * size, none⟩))) w := by
  have := runs_indexAddr (w := w) (ty := ty) ht he hx hy h
  rwa [add_lit] at this
/-- An array behind a pointer. -/
theorem runs_indexAddrA {t e len : Nat} {x y : Operand} {b off : Nat} {k : IntKind} {i : Int} {z : Value} {size bytes : Nat} (ht : P.underlying t = some (.array len e)) (he : TI P e z size bytes) (hx : ev l x = some (.pointer (some ⟨b, off, none⟩))) (hy : ev l y = some (.int k i))
    (h : 0 ≤ i ∧ i < len) : Runs P (.indexAddr t x y) ty l w (.value (.pointer (some ⟨b, off + i.toNat * size, none⟩))) w :=
  .of (fun ρ => Instr.indexAt t (ρ x) (ρ y)) (fun _ _ _ _ _ => rfl) fun ρ hρ => by
    simp only [hρ x _ hx, hρ y _ hy, Instr.indexAt, asIntOf, Sem.run_bind, run_underlying ht, Instr.sureAddr, pure, Sem.run, Result.andThen]
    rw [if_pos h]
    simp only [Sem.run_bind, he.run_size, Result.andThen, Sem.run, add_lit]
theorem madeCells_one (z : Value) (hz : z.cells = #[z]) (n : Nat) : madeCells z.cells n = (List.replicate n z).toArray := by
  rw [hz]
  unfold madeCells
  apply Array.ext
  · simp
  · intro i h1 h2
    simp only [List.getElem_toArray, List.getElem_replicate, Array.getElem_map, Array.getElem_range]
    simp [Nat.mod_one]
theorem runs_makeSlice {t e : TypeId} {x : Operand} {n : Nat} {z : Value} {size bytes : Nat} (ht : P.underlying t = some (.slice e)) (he : TI P e z size bytes) (hx : ev l x = some (.int .i64 (n : Int))) (hst : St w0 w I L) (hb : bytes * n ≤ 281474976710656) (hmax : n ≤ maxLen) :
    ∃ v w', Runs P (.makeSlice t x x) ty l w (.value v) w' ∧ ∃ b, v = .slice (some ⟨b, 0, none⟩) n n ∧ St w0 w' I ((b, .cells (madeCells z.cells (n * size)) e) :: L) := by
  obtain ⟨i, hi1, hi2, hi3, hi4⟩ := he.get
  obtain ⟨w', h1, ⟨h2, ⟨e1, _⟩ | ⟨g, cap, cur, e1, hge, hheap, h3, h4, h5, h6⟩⟩, h7⟩ := run_make_full (P := P) w w.heap.size t e i z size ht hi1 hi2 hi3 .i64 .i64 n (by rw [hi4]; exact hb) hmax (Nat.le_refl _)
  · cases e1
  · cases e1
    refine ⟨_, w', .of (fun ρ => Instr.makeSlice t (ρ x) (ρ x)) (fun _ _ _ _ _ => rfl) fun ρ hρ => by simp only [hρ x _ hx]; exact h1, w.heap.size, rfl, ?_⟩
    have : cur = madeCells z.cells (n * size) := by
      have h8 : cur.toList = (madeCells z.cells (n * size)).toList := by
        rw [← h6, List.take_of_length_le (by simp [h5])]
      exact Array.toList_inj.1 h8
    rw [← this]
    exact hst.cons_new h7 (Nat.le_refl _) hheap
/-- A block of bytes of one's own. -/
theorem made_b8 (n : Nat) : madeCells (Value.int .u8 0).cells (n * 1) = ((List.replicate n (0 : UInt8)).map b8).toArray := by
  rw [Nat.mul_one, madeCells_one _ rfl, List.map_replicate]; rfl
theorem set_b8 (bs : List UInt8) (i : Nat) (c : UInt8) : (bs.map b8).toArray.setIfInBounds i (b8 c) = ((bs.set i c).map b8).toArray := by
  rw [List.map_set]
  simp
/-- What a block holds reads as a list, written no more. -/
theorem RdL.of_block {e : TypeId} {b n : Nat} {cells : List Value} {size : Nat} {cs : Array Value} (hcs : cs = cells.toArray) (h : St w0 w I ((b, .cells cs e) :: L)) (hlen : cells.length = n * size) (hone : ∀ u ∈ cells, u.oneCell' = true) (hmax : n ≤ maxLen) :
    ∃ I', I.le I' ∧ St w0 w I' L ∧ RdL I' size (.slice (some ⟨b, 0, none⟩) n n) n cells := by
  subst hcs
  exact Grow.freeze (e := e) (Lv := [(b, .cells cells.toArray e)]) ⟨hlen, hone, .inr ⟨b, n, cells.toArray, rfl, rfl, Nat.le_refl _, hmax, by simpa using hlen, by rw [← hlen]; simp⟩⟩ h
theorem RdB.of_block {e : TypeId} {b : Nat} {bs : List UInt8} {n : Nat} (hn : n = bs.length) (h : St w0 w I ((b, .cells (bs.map b8).toArray e) :: L)) (hmax : n ≤ maxLen) :
    ∃ I', I.le I' ∧ St w0 w I' L ∧ RdB I' (.slice (some ⟨b, 0, none⟩) n n) bs := by
  subst hn
  exact RdL.of_block rfl h (by simp) (b8_one bs) hmax
/-- append(xs, make([]T, n)...) -/
theorem zeroCells_b8 (m : Nat) : Builtin.zeroCells (Value.int .u8 0).cells m = (List.replicate m (b8 0)).toArray := by
  have := madeCells_one (Value.int .u8 0) rfl m
  unfold Builtin.zeroCells
  rw [show (Value.int .u8 0).cells.size = 1 from rfl, Nat.mul_one]
  exact this
theorem runs_appendZG {t e : TypeId} {tn : TypeId} {x y : Operand} {v : Value} {m : Nat} {bs : List UInt8} (ht : P.underlying t = some (.slice e)) (he : TI P e (.int .u8 0) 1 1) (hti : P.underlying tn = some (.int .i64)) (hx : ev l x = some v) (hy : ev l y = some (.int .i64 (m : Int)))
    (hb : bs.length + m ≤ 140737488355328) (A : Option Addr) (cap : Nat) (hv : v = .slice A bs.length cap) (hcap : cap < bs.length + m) (hfo : (Builtin.firstCells 1 bs.length (.slice A bs.length cap)).run P w.drew = .ok (bs.map b8).toArray w.drew) (hst' : St w0 w I L) :
    ∃ v' w', Runs P (.call ⟨.builtin .append, #[x, y], #[t, tn]⟩) ty l w (.value v') w' ∧ ∃ Lv', St w0 w' I (Lv' ++ L) ∧ GrowB e v' (bs ++ List.replicate m 0) Lv' := by
  have hbi : ∀ {v' w'}, (Builtin.append_ #[t, tn] ty #[v, .int .i64 m]).run P w = .ok v' w' → Runs P (.call ⟨.builtin .append, #[x, y], #[t, tn]⟩) ty l w (.value v') w' := fun {v' w'} h =>
    Runs.bi (args := [x, y]) (vs := [v, .int .i64 m]) (by simp [evs, hx, hy]) fun consts => by simp only [builtin, Sem.run_bind, h]; rfl
  obtain ⟨i, hi, hz, hs, hby⟩ := he.get
  have hw : IntKind.i64.wrap (m : Int) = m := by rw [IntKind.wrap_i64]; omega
  have hw0 : IntKind.i64.wrap 0 = 0 := by rw [IntKind.wrap_i64]; rfl
  have hneg : ¬ ((m : Int) < 0) := by omega
  have hbig : ¬ (281474976710656 < (m : Int)) := by omega
  obtain ⟨news, hnews⟩ : ∃ news, news = List.replicate m (b8 0) := ⟨_, rfl⟩
  have hna : Builtin.zeroCells (Value.int .u8 0).cells m = news.toArray := by rw [hnews, zeroCells_b8]
  have hl : news.length = m := by rw [hnews, List.length_replicate]
  have hone : ∀ u ∈ news, u.oneCell' = true := fun u hu => by rw [hnews] at hu; rw [(List.mem_replicate.1 hu).2]; rfl
  have hlen : (bs ++ List.replicate m 0).length = bs.length + m := by simp
  have hmap : (bs ++ List.replicate m 0).map b8 = bs.map b8 ++ news := by rw [List.map_append, List.map_replicate, hnews]
  have hones : ∀ u ∈ bs.map b8 ++ news, u.oneCell' = true := fun u hu => (List.mem_append.1 hu).elim (b8_one bs u) (hone u)
  have hmax : bs.length + m ≤ maxLen := by unfold maxLen; omega
  have hn : ¬ (bs.length + m ≤ cap) := by omega
  have h63' : ¬ (9223372036854775807 < ((bs.length : Int) + (m : Int))) := by omega
  have hfit := growslice_fits hcap (bytes := 1) (by omega)
  have h48' : ¬ (281474976710656 < Builtin.nextslicecap (bs.length + m) cap) := by omega
  have hge := grownCap_ge w (bs.length + m) cap e
  have hcm : grownCap w (bs.length + m) cap e ≤ maxLen := grownCap_le_maxLen w (bs.length + m) cap e hmax
  have hrun : (Builtin.append_ #[t, tn] ty #[v, .int .i64 m]).run P w = .ok (.slice (some ⟨w.heap.size, 0, none⟩) (bs.length + m) (grownCap w (bs.length + m) cap e))
      (w.drew.alloc (.cells ((bs.map b8).toArray ++ news.toArray ++ Builtin.zeroCells (Value.int .u8 0).cells (grownCap w (bs.length + m) cap e - (bs.length + m))) e)) := by
    subst hv
    by_cases hm : m = 0
    · have hnl : news = [] := List.eq_nil_of_length_eq_zero (by omega)
      subst hm
      rw [hnl]
      simp only [Nat.add_zero] at hn h63' h48' ⊢
      have h63'' : ¬ (9223372036854775807 < (bs.length : Int)) := by omega
      simp [Builtin.append_, run_underlying ht, run_underlying hti, sizeOf, typeInfo, zeroValue, hi, hz, hs, hby, asInt, asIntOf, hw0, hn, h63'', h48', Question.forced, hfo, newRow, grownCap]
    · simp [Builtin.append_, run_underlying ht, run_underlying hti, sizeOf, typeInfo, zeroValue, hi, hz, hs, hby, asInt, asIntOf, hw, hneg, hbig, hn, h63', h48', Question.forced, hfo, newRow, grownCap, hm, hna]
      congr 2
      apply Array.ext'
      simp [List.append_assoc]
  have hg' : GrowB e (.slice (some ⟨w.heap.size, 0, none⟩) (bs.length + m) (grownCap w (bs.length + m) cap e)) (bs ++ List.replicate m 0) [(w.heap.size, .cells ((bs.map b8).toArray ++ news.toArray ++ Builtin.zeroCells (Value.int .u8 0).cells (grownCap w (bs.length + m) cap e - (bs.length + m))) e)] := by
    unfold GrowB
    rw [hlen, hmap]
    refine ⟨by simp [hl], hones, .inr ⟨_, _, _, rfl, rfl, hge, hcm, ?_, ?_⟩⟩
    · rw [zeroCells_b8]; simp [hl]; omega
    · have : (bs.map b8 ++ news).length = (bs.length + m) * 1 := by simp [hl]
      simp only [Array.toList_append, List.append_assoc]
      rw [← List.append_assoc, ← this]
      exact List.take_left
  exact ⟨_, _, hbi hrun, _, hst'.drewN.heap_new _, hg'⟩
theorem runs_appendZ {t e : TypeId} {tn : TypeId} {x y : Operand} {v : Value} {m : Nat} {bs : List UInt8} {Lv : Own} (ht : P.underlying t = some (.slice e)) (he : TI P e (.int .u8 0) 1 1) (hti : P.underlying tn = some (.int .i64)) (hx : ev l x = some v) (hy : ev l y = some (.int .i64 (m : Int)))
    (hst : St w0 w I (Lv ++ L)) (hg : GrowB e v bs Lv) (hb : bs.length + m ≤ 140737488355328) :
    ∃ v' w', Runs P (.call ⟨.builtin .append, #[x, y], #[t, tn]⟩) ty l w (.value v') w' ∧ ∃ Lv', St w0 w' I (Lv' ++ L) ∧ GrowB e v' (bs ++ List.replicate m 0) Lv' := by
  have hbi : ∀ {v' w'}, (Builtin.append_ #[t, tn] ty #[v, .int .i64 m]).run P w = .ok v' w' → Runs P (.call ⟨.builtin .append, #[x, y], #[t, tn]⟩) ty l w (.value v') w' := fun {v' w'} h =>
    Runs.bi (args := [x, y]) (vs := [v, .int .i64 m]) (by simp [evs, hx, hy]) fun consts => by simp only [builtin, Sem.run_bind, h]; rfl
  obtain ⟨i, hi, hz, hs, hby⟩ := he.get
  have hw : IntKind.i64.wrap (m : Int) = m := by rw [IntKind.wrap_i64]; omega
  have hw0 : IntKind.i64.wrap 0 = 0 := by rw [IntKind.wrap_i64]; rfl
  have hneg : ¬ ((m : Int) < 0) := by omega
  have hbig : ¬ (281474976710656 < (m : Int)) := by omega
  obtain ⟨news, hnews⟩ : ∃ news, news = List.replicate m (b8 0) := ⟨_, rfl⟩
  have hna : Builtin.zeroCells (Value.int .u8 0).cells m = news.toArray := by rw [hnews, zeroCells_b8]
  have hl : news.length = m := by rw [hnews, List.length_replicate]
  have hone : ∀ u ∈ news, u.oneCell' = true := fun u hu => by rw [hnews] at hu; rw [(List.mem_replicate.1 hu).2]; rfl
  have hlen : (bs ++ List.replicate m 0).length = bs.length + m := by simp
  have hmap : (bs ++ List.replicate m 0).map b8 = bs.map b8 ++ news := by rw [List.map_append, List.map_replicate, hnews]
  have hones : ∀ u ∈ bs.map b8 ++ news, u.oneCell' = true := fun u hu => (List.mem_append.1 hu).elim (b8_one bs u) (hone u)
  have hmax : bs.length + m ≤ maxLen := by unfold maxLen; omega
  have grows := fun A cap hv hcap hfo hst' => runs_appendZG (P := P) (l := l) (ty := ty) (w := w) (w0 := w0) (I := I) (L := L) ht he hti hx hy hb A cap hv hcap hfo hst'
  obtain ⟨hxl, hxo, ⟨rfl, hb0, rfl⟩ | ⟨g, cap, cur, rfl, rfl, h3, h4, h5, h6⟩⟩ := hg
  · have hbs : bs = [] := List.eq_nil_of_length_eq_zero hb0
    subst hbs
    by_cases hm : m = 0
    · subst hm
      refine ⟨_, _, hbi (v' := .slice none 0 0) (w' := w) ?_, [], hst, by simpa using GrowB.nil e⟩
      simp [Builtin.append_, run_underlying ht, run_underlying hti, sizeOf, typeInfo, hi, asInt, asIntOf, hw0]
    · exact grows none 0 rfl (by simp; omega) rfl (by simpa using hst)
  · by_cases hroom : bs.length + m ≤ cap
    · obtain ⟨w', h7, h8⟩ := St.run_stores (P := P) news hst (k := 0) (b := g) (off := bs.length) rfl 0 (by rw [hl, h5]; omega) (NoFz.zero _) hone
      refine ⟨_, w', hbi (v' := .slice (some ⟨g, 0, none⟩) (bs.length + m) cap) (w' := w') ?_, [(g, .cells (cur.toList.take (bs.length + 0) ++ news ++ cur.toList.drop (bs.length + 0 + news.length)).toArray e)], by simpa using h8, ?_⟩
      · by_cases hm : m = 0
        · have hnl : news = [] := List.eq_nil_of_length_eq_zero (by omega)
          subst hm
          rw [hnl] at h7
          have h7' : w' = w := by simp [storeCells, Sem.run, pure] at h7; exact h7.symm
          subst h7'
          simp [Builtin.append_, run_underlying ht, run_underlying hti, sizeOf, typeInfo, hi, asInt, asIntOf, hw0, h3, storeCells]
        · simp [Builtin.append_, run_underlying ht, run_underlying hti, sizeOf, typeInfo, zeroValue, hi, hz, hs, hby, asInt, asIntOf, hw, hneg, hbig, hroom, hm, hna, add_lit, h7]
          try omega
      · unfold GrowB
        rw [hlen, hmap]
        refine ⟨by simp [hl], hones, .inr ⟨g, cap, _, rfl, rfl, hroom, h4, ?_, ?_⟩⟩
        · simp [hl, h5]; omega
        · have h9 : cur.toList.take bs.length = bs.map b8 := by simpa using h6
          simp only [Nat.add_zero, h9]
          have : (bs.map b8 ++ news).length = (bs.length + m) * 1 := by simp [hl]
          rw [← this]
          exact List.take_left
    · refine grows (some ⟨g, 0, none⟩) cap rfl (by omega) (run_firstCells_some (P := P) w.drew 1 bs.length _ bs.length cap (bs.map b8) (by simp) fun j u hj => ?_) (hst.sub (by simp))
      rw [add_lit, Nat.zero_add]
      refine hst.drewN.cell_own (k := 0) rfl ?_
      rw [← h6, List.getElem?_take] at hj
      split at hj
      · simpa using hj
      · cases hj
/-- string(b) -/
def strOf (bs : List UInt8) : ByteArray := ⟨bs.toArray⟩
theorem strOf_map (bs : List UInt8) : strOfNums (bs.map fun c => (c.toNat : Int)) = strOf bs := by
  unfold strOfNums strOf
  rw [List.map_map]
  congr 2
  have : ((fun n : Int => UInt8.ofNat n.toNat) ∘ fun c : UInt8 => (c.toNat : Int)) = id := by funext c; simp
  rw [this, List.map_id]
theorem strOf_toList (bs : List UInt8) : (strOf bs).toList = bs := by
  simp [strOf]
theorem RdB.string {s d e : TypeId} {x : Operand} {v : Value} {bs : List UInt8} (hs : P.underlying s = some (.slice e)) (he : P.underlying e = some (.int .u8)) (hd : P.underlying d = some .string) (hx : ev l x = some v) (hr : RdB I v bs) (hst : St w0 w I L) :
    Runs P (.convert s d x) ty l w (.value (.string (strOf bs))) w :=
  .of (fun ρ => convert s d (ρ x)) (fun _ _ _ _ _ => rfl) fun ρ hρ => by
    obtain ⟨h1, h2, A, cap, rfl, h3, h4⟩ := hr
    rw [hρ x _ hx]
    cases bs with
    | nil =>
      rw [run_convert_bytes_string _ _ _ _ _ _ _ hs he hd]
      cases A with
      | none => rfl
      | some a =>
        have := run_bytesToString (P := P) w a 0 cap [] (by rfl)
        exact this
    | cons c r =>
      obtain ⟨a, rfl, _⟩ := h4 0 (b8 c) (by simp)
      have hcells : (loadCells a (c :: r).length).run P w = .ok (((c :: r).map fun c => (c.toNat : Int)).map (Value.int .u8)).toArray w := by
        have := run_loadCells_list (P := P) w a ((c :: r).map b8) (fun j u hj => by
          obtain ⟨a', h5, h6⟩ := h4 j u hj
          cases h5
          exact hst.cell_imm h6)
        rw [List.length_map] at this
        rw [this, List.map_map]
        rfl
      rw [run_convert_bytes_string _ _ _ _ _ _ _ hs he hd, run_bytesToString w a _ _ _ hcells]
      rw [foldl_push_bytes, ← strOf_map]
      simp [strOfNums, ByteArray.empty, ByteArray.emptyWithCapacity]
      rfl
end Go.Proofs.YtlmmpcdjkpibcaaX
