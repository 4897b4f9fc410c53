/- Interfaces, and texts appended to bytes. Own lemmas, no program in sight. -/
import Derived.Test.YtlmmpcdjkpibcaaXA
import Derived.Lib.AppendStr
namespace Go.Proofs.YtlmmpcdjkpibcaaX
set_option linter.unusedVariables false
set_option linter.unusedSimpArgs false
open Go Go.RowKit Go.Lib
variable {w0 w : World} {I : Imm} {L : Own} {P : Program} {l : Env} {ty : TypeId} {N : Nat}

theorem runs_makeIface {t : TypeId} {x : Operand} {v : Value} (ht : P.concrete t = true) (hx : ev l x = some v) : Runs P (.makeInterface t x) ty l w (.value (.iface t v)) w :=
  .of (fun ρ => Instr.makeInterface t (ρ x)) (fun _ _ _ _ _ => rfl) fun ρ hρ => by
    rw [hρ x _ hx]
    exact run_makeInterface w t v ht
/-- What 'v, ok := x.(T)' gives. -/
def asV (a : TypeId) (z : Value) : Value → Value
  | .iface t u => if t = a then u else z
  | _ => z
def asB (a : TypeId) : Value → Bool
  | .iface t _ => t == a
  | _ => false
def assertOk (a : TypeId) (z v : Value) : Value := .tuple #[asV a z v, .bool (asB a v)]
def isIface : Value → Bool
  | .iface _ _ => true
  | .nilIface => true
  | _ => false
theorem runs_assertOk {t a : TypeId} {x : Operand} {v z : Value} {size bytes : Nat} (ha : P.concrete a = true) (hz : TI P a z size bytes) (hx : ev l x = some v) (hv : isIface v = true) : Runs P (.typeAssert x t a true) ty l w (.value (assertOk a z v)) w :=
  .of (fun ρ => Instr.typeAssert (ρ x) t a true) (fun _ _ _ _ _ => rfl) fun ρ hρ => by
    rw [hρ x _ hx]
    unfold Program.concrete at ha
    unfold Instr.typeAssert
    cases hu : P.underlying a with
    | none => simp [hu] at ha
    | some d =>
      cases d <;> simp only [hu, Bool.false_eq_true] at ha <;> cases v <;> simp only [isIface, Bool.false_eq_true] at hv <;>
        (simp only [Sem.run_bind, run_underlying hu, Result.andThen, if_true, hz.run_zero, assertOk, asV, asB]; first | rfl | (split <;> rename_i hta <;> simp [hta, hz.run_zero, Sem.run_bind, Result.andThen, Sem.run, pure]))
theorem runs_assertV {t a : TypeId} {x : Operand} {u : Value} (ha : P.concrete a = true) (hx : ev l x = some (.iface a u)) : Runs P (.typeAssert x t a false) ty l w (.value u) w :=
  .of (fun ρ => Instr.typeAssert (ρ x) t a false) (fun _ _ _ _ _ => rfl) fun ρ hρ => by
    rw [hρ x _ hx]
    unfold Program.concrete at ha
    unfold Instr.typeAssert
    cases hu : P.underlying a with
    | none => simp [hu] at ha
    | some d =>
      cases d <;> simp only [hu, Bool.false_eq_true] at ha <;> (simp only [Sem.run_bind, run_underlying hu, Result.andThen, if_true]; rfl)
/-- append(bs, s...), s a text. -/
theorem strCells_b8 (s : ByteArray) : strCells s = s.toList.map b8 := by
  rw [ByteArray.toList_eq]
  rfl
theorem runs_appendS {t u e : TypeId} {x y : Operand} {v : Value} {s : ByteArray} {bs : List UInt8} {Lv : Own} (ht : P.underlying t = some (.slice e)) (he : TI P e (.int .u8 0) 1 1) (hu : P.underlying u = some .string) (hx : ev l x = some v) (hy : ev l y = some (.string s))
    (hst : St w0 w I (Lv ++ L)) (hg : GrowB e v bs Lv) (hb : bs.length + s.size ≤ 140737488355328) :
    ∃ v' w', Runs P (.call ⟨.builtin .append, #[x, y], #[t, u]⟩) ty l w (.value v') w' ∧ ∃ Lv', St w0 w' I (Lv' ++ L) ∧ GrowB e v' (bs ++ s.toList) Lv' := by
  have hbi : ∀ {v' w'}, (Builtin.append_ #[t, u] ty #[v, .string s]).run P w = .ok v' w' → Runs P (.call ⟨.builtin .append, #[x, y], #[t, u]⟩) ty l w (.value v') w' := fun {v' w'} h =>
    Runs.bi (args := [x, y]) (vs := [v, .string s]) (by simp [evs, hx, hy]) fun consts => by simp only [builtin, Sem.run_bind, h]; rfl
  obtain ⟨i, hi, hz, hs, hby⟩ := he.get
  have hsl : s.toList.length = s.size := by rw [ByteArray.toList_eq]; rfl
  have hlen : (bs ++ s.toList).length = bs.length + s.size := by rw [List.length_append, hsl]
  have hmap : (bs ++ s.toList).map b8 = bs.map b8 ++ strCells s := by rw [List.map_append, strCells_b8]
  have hmax : bs.length + s.size ≤ maxLen := by unfold maxLen; omega
  have mk : ∀ {v' : Value} {g cap : Nat} {cur : Array Value}, v' = .slice (some ⟨g, 0, none⟩) (bs.length + s.size) cap → bs.length + s.size ≤ cap → cap ≤ maxLen → cur.size = cap * 1 → cur.toList.take ((bs.length + s.size) * 1) = bs.map b8 ++ strCells s → GrowB e v' (bs ++ s.toList) [(g, .cells cur e)] := by
    intro v' g cap cur h1 h2 h3 h4 h5
    have hone := b8_one (bs ++ s.toList)
    unfold GrowB
    rw [hlen]
    rw [hmap] at hone ⊢
    exact ⟨by rw [List.length_append, strCells_length]; simp, hone, .inr ⟨g, cap, cur, h1, rfl, h2, h3, h4, h5⟩⟩
  obtain ⟨hxl, hxo, ⟨rfl, hb0, rfl⟩ | ⟨g, cap, cur, rfl, rfl, h3, h4, h5, h6⟩⟩ := hg
  · have hbs : bs = [] := List.eq_nil_of_length_eq_zero hb0
    subst hbs
    obtain ⟨v', w', h7, h8, h9, h10⟩ := run_append_own_string (P := P) w w.heap.size t u ty e i ht hu hi hz hs hby (.slice none 0 0) 0 [] ⟨by simp, .inl ⟨rfl, rfl⟩⟩ s (by simpa using hmax) (by simpa using hb) (Nat.le_refl _)
    obtain ⟨h11, ⟨e1, e2⟩ | ⟨g, cap, cur, rfl, hge, hheap, h12, h13, h14, h15⟩⟩ := h8
    · have : s.toList = [] := List.eq_nil_of_length_eq_zero (by omega)
      refine ⟨v', w', hbi h7, [], ?_, ?_⟩
      · exact hst.grown_none h9
      · rw [this, e1]; exact GrowB.nil e
    · exact ⟨_, w', hbi h7, _, hst.cons_new h9 hge hheap, mk (by simp) (by simpa using h12) h13 h14 (by simpa using h15)⟩
  · have hcs : cur.size = cap := by simpa using h5
    have htk : cur.toList.take bs.length = bs.map b8 := by simpa using h6
    have hmem : (g, Obj.cells cur e) ∈ ([(g, .cells cur e)] ++ L : Own) := by simp
    have hheap := hst.own _ hmem
    by_cases hroom : bs.length + s.size ≤ cap
    · have hr := run_append_room_string (P := P) (ty := ty) w t u e i ht hu hi hs g bs.length cap cur hheap s hroom (by omega)
      refine ⟨_, _, hbi hr, [(g, .cells (cur.toList.take bs.length ++ strCells s ++ cur.toList.drop (bs.length + s.size)).toArray e)], ?_, mk rfl hroom h4 ?_ ?_⟩
      · have := hst.put (k := 0) (b := g) (o := .cells cur e) (o' := .cells (cur.toList.take bs.length ++ strCells s ++ cur.toList.drop (bs.length + s.size)).toArray e) (w' := w.setRow g (cur.toList.take bs.length ++ strCells s ++ cur.toList.drop (bs.length + s.size)).toArray) rfl rfl rfl rfl (setRow_heap w g cur _ e _ hheap) (fun j hj hlt => setRow_other w g j _ hj)
        simpa using this
      · simp only [List.size_toArray, List.length_append, List.length_take, List.length_drop, Array.length_toList, strCells_length]
        omega
      · rw [htk]
        have : (bs.map b8 ++ strCells s).length = (bs.length + s.size) * 1 := by rw [List.length_append, strCells_length]; simp
        rw [← this]
        exact List.take_left
    · have hold : ∀ j v, (bs.map b8)[j]? = some v → w.cell? ((⟨g, 0, none⟩ : Addr).add j) = some v := fun j v hj => by
        rw [add_lit, Nat.zero_add]
        refine hst.cell_own (k := 0) rfl ?_
        rw [← htk, List.getElem?_take] at hj
        split at hj
        · simpa using hj
        · cases hj
      have hfit := growslice_fits (show cap < bs.length + s.size by omega) (bytes := 1) (by omega)
      have hr := run_append_grow_string (P := P) (ty := ty) w t u e i (.int .u8 0) ht hu hi hz ⟨g, 0, none⟩ bs.length cap (bs.map b8) (by rw [hs]; simp) hold s (by omega) (by omega) (by rw [hby]; exact hfit)
      refine ⟨_, _, hbi hr, _, ((hst.sub (by simp)).drewN).heap_new _, mk rfl (grownCap_ge w _ cap e) (grownCap_le_maxLen w _ cap e hmax) ?_ ?_⟩
      · rw [zeroCells_b8]
        have := grownCap_ge w (bs.length + s.size) cap e
        simp [strCells_length]
        omega
      · have : (bs.map b8 ++ strCells s).length = (bs.length + s.size) * 1 := by rw [List.length_append, strCells_length]; simp
        simp only [Array.toList_append, List.append_assoc]
        rw [← List.append_assoc, ← this]
        exact List.take_left
/-- []byte("..") of a text that is written out: the row is marked, and goes on. -/
theorem run_convMark {t e g n cap : Nat} {cur : Array Value} (ht : P.underlying t = some (.slice e)) (he : P.underlying e = some (.int .u8)) (hst : St w0 w I ((g, .cells cur e) :: L)) :
    ∃ w', (convert t t (.slice (some ⟨g, 0, none⟩) n cap)).run P w = .ok (.slice (some ⟨g, 0, none⟩) n cap) w' ∧ St w0 w' I ((g, .cells cur e (cur.size, cur.size + 1)) :: L) := by
  have hb := hst.own _ (List.mem_cons_self ..)
  have hsh : w.shape? g = some (e, cur.size) := by unfold World.shape?; rw [hb]
  have hlt : g < w.heap.size := (Array.getElem?_eq_some_iff.1 hb).1
  refine ⟨w.freeze ⟨g, cur.size, none⟩ 1, ?_, ?_⟩
  · simp [convert, run_underlying ht, run_underlying he, markStringish, hsh]
  · have := hst.put (k := 0) (b := g) (o := .cells cur e) (o' := .cells cur e (cur.size, cur.size + 1)) (w' := w.freeze ⟨g, cur.size, none⟩ 1) rfl (by unfold World.freeze; rfl) (by unfold World.freeze; rfl) (by unfold World.freeze; rfl)
      (by unfold World.freeze; rw [if_neg (by decide)]; simp only [Array.getElem?_modify, if_true, hb]; rfl) (fun j hj hjl => by unfold World.freeze; rw [if_neg (by decide)]; simp only [Array.getElem?_modify]; rw [if_neg (Ne.symm hj)])
    simpa using this
theorem runs_convMark {t e : TypeId} {x : Operand} {v : Value} {bs : List UInt8} {Lv : Own} (ht : P.underlying t = some (.slice e)) (he : P.underlying e = some (.int .u8)) (hx : ev l x = some v) (hst : St w0 w I (Lv ++ L)) (hg : GrowB e v bs Lv) (hpos : 0 < bs.length) :
    ∃ u w', Runs P (.convert t t x) ty l w (.value u) w' ∧ ∃ I', I.le I' ∧ St w0 w' I' L ∧ RdB I' u bs := by
  obtain ⟨h1, h2, ⟨_, h3, _⟩ | ⟨g, cap, cur, rfl, rfl, h3, h4, h5, h6⟩⟩ := hg
  · omega
  · obtain ⟨w', h7, h8⟩ := run_convMark (n := bs.length) (cap := cap) (P := P) ht he (by simpa using hst)
    obtain ⟨h9, h10⟩ := h8.freeze
    refine ⟨_, w', .of (fun ρ => convert t t (ρ x)) (fun _ _ _ _ _ => rfl) fun ρ hρ => by rw [hρ x _ hx]; exact h7, _, h10, h9, h1, h2, _, cap, rfl, h3, fun j u hj => ⟨_, rfl, ?_⟩⟩
    rw [add_lit]
    unfold Imm.cell?
    simp only [Imm.add_at, Option.isSome_none, Bool.false_eq_true, if_false, Nat.zero_add]
    rw [← h6] at hj
    rw [List.getElem?_take] at hj
    split at hj
    · simpa using hj
    · cases hj
/-! ### Interfaces compared -/
def cmpT (P : Program) (t : TypeId) : Bool := match P.info? t with
  | some i => i.comparable
  | none => false
def isIfaceT (P : Program) (t : TypeId) : Bool := match P.underlying t with
  | some (.interface _) => true
  | _ => false
theorem run_equalIn_iface {t tx : TypeId} {vx vy : Value} {d : Nat} {r : Bool} (ht : isIfaceT P t = true) (hc : cmpT P tx = true) (h : (Op.equalIn d tx vx vy).run P w = .ok r w) : (Op.equalIn (d + 1) t (.iface tx vx) (.iface tx vy)).run P w = .ok r w := by
  unfold isIfaceT at ht
  unfold cmpT at hc
  cases hu : P.underlying t with
  | none => simp [hu] at ht
  | some dd => cases dd <;> simp only [hu, Bool.false_eq_true] at ht
               cases hi : P.info? tx with
               | none => simp [hi] at hc
               | some i =>
                 simp only [hi] at hc
                 simp [Op.equalIn, run_underlying hu, typeInfo, hi, hc, h]
theorem run_equalIn_iface_ne {t tx ty : TypeId} {vx vy : Value} {d : Nat} (ht : isIfaceT P t = true) (hne : tx ≠ ty) : (Op.equalIn (d + 1) t (.iface tx vx) (.iface ty vy)).run P w = .ok false w := by
  unfold isIfaceT at ht
  cases hu : P.underlying t with
  | none => simp [hu] at ht
  | some dd => cases dd <;> simp only [hu, Bool.false_eq_true] at ht
               simp [Op.equalIn, run_underlying hu, hne]
theorem run_eqGuard_iface (op : BinOp) (t : TypeId) (x y : Operand) (tx ty : TypeId) (vx vy : Value) : (eqGuard op t x y (.iface tx vx) (.iface ty vy)).run P w = .ok () w := by
  cases op <;> rfl
theorem runs_eqIface {t t' tx ty' : TypeId} {x y : Operand} {vx vy : Value} {r : Bool} (ht : isIfaceT P t = true) (hx : ev l x = some (.iface tx vx)) (hy : ev l y = some (.iface ty' vy)) (h : ∀ w, (Op.equalIn 10000 t (.iface tx vx) (.iface ty' vy)).run P w = .ok r w) :
    Runs P (.binOp .eql t x y t') ty l w (.value (.bool r)) w :=
  .of (fun ρ => do eqGuard .eql t x y (ρ x) (ρ y); binOp .eql t (ρ x) (ρ y)) (fun _ _ _ _ _ => rfl) fun ρ hρ => by
    simp only [hρ x _ hx, hρ y _ hy, Sem.run_bind, run_eqGuard_iface, Result.andThen_ok]
    have h1 : (Op.equal t (.iface tx vx) (.iface ty' vy)).run P w = .ok r w := by unfold Op.equal Op.maxDepth; exact h w
    unfold binOp
    simp only [Sem.run_bind, h1, Result.andThen]
    rfl
theorem runs_neIface {t t' tx ty' : TypeId} {x y : Operand} {vx vy : Value} {r : Bool} (ht : isIfaceT P t = true) (hx : ev l x = some (.iface tx vx)) (hy : ev l y = some (.iface ty' vy)) (h : ∀ w, (Op.equalIn 10000 t (.iface tx vx) (.iface ty' vy)).run P w = .ok r w) :
    Runs P (.binOp .neq t x y t') ty l w (.value (.bool (!r))) w :=
  .of (fun ρ => do eqGuard .neq t x y (ρ x) (ρ y); binOp .neq t (ρ x) (ρ y)) (fun _ _ _ _ _ => rfl) fun ρ hρ => by
    simp only [hρ x _ hx, hρ y _ hy, Sem.run_bind, run_eqGuard_iface, Result.andThen_ok]
    have h1 : (Op.equal t (.iface tx vx) (.iface ty' vy)).run P w = .ok r w := by unfold Op.equal Op.maxDepth; exact h w
    unfold binOp
    simp only [Sem.run_bind, h1, Result.andThen]
    rfl
/-- Rows of bytes, each by its own. -/
def RdAll (I : Imm) : List Value → List (List UInt8) → Prop
  | [], [] => True
  | v :: vs, b :: bs => RdB I v b ∧ RdAll I vs bs
  | _, _ => False
theorem RdAll.get {I : Imm} : ∀ {vs : List Value} {bss : List (List UInt8)}, RdAll I vs bss → vs.length = bss.length ∧ ∀ (i : Nat) (u : Value) (b : List UInt8), vs[i]? = some u → bss[i]? = some b → RdB I u b
  | [], [], _ => ⟨rfl, fun i u b h => by simp at h⟩
  | [], _ :: _, h => h.elim
  | _ :: _, [], h => h.elim
  | v :: vs, c :: bs, h => by
    obtain ⟨h1, h2⟩ := RdAll.get h.2
    refine ⟨by simp [h1], fun i u b hu hb => ?_⟩
    cases i with
    | zero => cases hu; cases hb; exact h.1
    | succ i => exact h2 i u b (by simpa using hu) (by simpa using hb)
theorem RdAll.one {I : Imm} {vs : List Value} {bss : List (List UInt8)} (h : RdAll I vs bss) : ∀ u ∈ vs, u.oneCell' = true := fun u hu => by
  obtain ⟨i, hi, rfl⟩ := List.getElem_of_mem hu
  obtain ⟨h1, h2⟩ := h.get
  exact (h2 i vs[i] (bss[i]'(by omega)) (by simp [hi]) (by simp)).one
theorem RdR.of_all {I : Imm} {v : Value} {n : Nat} {vs : List Value} {bss : List (List UInt8)} (h : RdL I 1 v n vs) (hn : vs.length = n) (ha : RdAll I vs bss) : RdR I v vs bss := by
  subst hn
  exact ⟨h, ha.get.1, ha.get.2⟩
theorem take_map_range {α : Type} (f : Nat → α) (n k : Nat) (h : k < n) : ((List.range n).map f).take (k + 1) = ((List.range n).map f).take k ++ [f k] := by
  rw [List.take_add_one]
  simp [h]
theorem size_toList (s : ByteArray) : s.toList.length = s.size := by rw [ByteArray.toList_eq]; rfl
end Go.Proofs.YtlmmpcdjkpibcaaX
