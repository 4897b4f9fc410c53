/- Texts as bytes of one's own, small letters. Own lemmas, no program in sight. -/
import Derived.Test.YtlmmpcdjkpibcaaXB
import Derived.Laws.IdiomStrings
namespace Go.Proofs.YtlmmpcdjkpibcaaX
set_option linter.unusedVariables false
set_option linter.unusedSimpArgs false
open Go Go.RowKit Go.Lib
variable {w0 w : World} {I : Imm} {L : Own} {P : Program} {l : Env} {ty : TypeId} {N : Nat}

/-- A row of one's own: its first bytes, what stands behind, its mark. -/
def rowB (bs : List UInt8) (pad : List Value) (e : TypeId) : Obj := .cells (bs.map b8 ++ pad).toArray e ((bs.map b8 ++ pad).length, (bs.map b8 ++ pad).length + 1)
theorem runs_bytesOf {src dst e : TypeId} {x : Operand} {s : ByteArray} (hs : P.underlying src = some .string) (hd : P.underlying dst = some (.slice e)) (he : P.underlying e = some (.int .u8)) (hx : ev l x = some (.string s)) (hst : St w0 w I L) :
    ∃ v w', Runs P (.convert src dst x) ty l w (.value v) w' ∧ ∃ b cap pad, v = .slice (some ⟨b, 0, none⟩) s.toList.length cap ∧ s.toList.length ≤ cap ∧ St w0 w' I ((b, rowB s.toList pad e) :: L) := by
  have h := run_bytes_of_string (P := P) w src dst e s hs hd he
  have hr : Runs P (.convert src dst x) ty l w (.value (.slice (some ⟨w.heap.size, 0, none⟩) s.size (grownCap w s.size 0 e)))
      (w.drew.alloc (.cells (bytesRow s (grownCap w s.size 0 e)) e ((bytesRow s (grownCap w s.size 0 e)).size, (bytesRow s (grownCap w s.size 0 e)).size + 1))) :=
    .of (fun ρ => convert src dst (ρ x)) (fun _ _ _ _ _ => rfl) fun ρ hρ => by rw [hρ x _ hx]; exact h
  have hrow : bytesRow s (grownCap w s.size 0 e) = (s.toList.map b8 ++ List.replicate (grownCap w s.size 0 e - s.size) (Value.int .u8 0)).toArray := by
    unfold bytesRow
    apply Array.ext'
    rw [ByteArray.toList_eq]
    simp [b8]
  rw [hrow] at hr
  have e1 : (Obj.cells (s.toList.map b8 ++ List.replicate (grownCap w s.size 0 e - s.size) (Value.int .u8 0)).toArray e ((s.toList.map b8 ++ List.replicate (grownCap w s.size 0 e - s.size) (Value.int .u8 0)).toArray.size, (s.toList.map b8 ++ List.replicate (grownCap w s.size 0 e - s.size) (Value.int .u8 0)).toArray.size + 1)) = rowB s.toList (List.replicate (grownCap w s.size 0 e - s.size) (Value.int .u8 0)) e := rfl
  rw [e1] at hr
  have hcap := grownCap_ge w s.size 0 e
  generalize hC : grownCap w s.size 0 e = cap at *
  refine ⟨_, _, hr, w.heap.size, cap, List.replicate (cap - s.size) (Value.int .u8 0), ?_, ?_, ?_⟩
  · rw [size_toList]
  · rw [size_toList]; exact hcap
  · have h9 := hst.drewN.heap_new (rowB s.toList (List.replicate (cap - s.size) (Value.int .u8 0)) e)
    exact h9
theorem NoFz.behind (n : Nat) : NoFz n (n, n + 1) := fun o ho => by
  have : ¬ n ≤ o := by omega
  simp [this]
theorem rowB_get {bs : List UInt8} {pad : List Value} {k : Nat} (hk : k < bs.length) : ((bs.map b8 ++ pad).toArray)[k]? = some (b8 (bs.getD k 0)) := by
  rw [List.getElem?_toArray, List.getElem?_append_left (by simpa using hk)]
  simp [hk]
theorem rowB_set {bs : List UInt8} {pad : List Value} {k : Nat} (c : UInt8) (hk : k < bs.length) : ((bs.map b8 ++ pad).toArray.setIfInBounds k (b8 c)) = ((bs.set k c).map b8 ++ pad).toArray := by
  apply Array.ext'
  rw [Array.toList_setIfInBounds, List.set_append_left _ _ (by simpa using hk), List.map_set]
theorem rowB_freeze {b : Nat} {bs : List UInt8} {pad : List Value} {e : TypeId} {cap : Nat} (h : St w0 w I ((b, rowB bs pad e) :: L)) (hcap : bs.length ≤ cap) : ∃ I', I.le I' ∧ St w0 w I' L ∧ RdB I' (.slice (some ⟨b, 0, none⟩) bs.length cap) bs := by
  obtain ⟨h1, h2⟩ := h.freeze
  refine ⟨_, h2, h1, by simp, b8_one bs, _, cap, rfl, hcap, fun j u hj => ⟨_, rfl, ?_⟩⟩
  rw [add_lit]
  unfold Imm.cell? rowB
  simp only [Imm.add_at, Option.isSome_none, Bool.false_eq_true, if_false, Nat.zero_add]
  have hjl := (List.getElem?_eq_some_iff.1 hj).1
  rw [List.getElem?_toArray, List.getElem?_append_left hjl]
  exact hj
/-- A byte as a small letter. -/
def lowB (c : UInt8) : UInt8 := if 65 ≤ c.toNat ∧ c.toNat ≤ 90 then u8 ((c.toNat : Int) + 32) else c
def lower (bs : List UInt8) : List UInt8 := bs.map lowB
def lowTo (bs : List UInt8) (k : Nat) : List UInt8 := (bs.take k).map lowB ++ bs.drop k
theorem lowTo_zero (bs : List UInt8) : lowTo bs 0 = bs := by simp [lowTo]
theorem lowTo_end (bs : List UInt8) : lowTo bs bs.length = lower bs := by simp [lowTo, lower]
theorem lowTo_length (bs : List UInt8) (k : Nat) : (lowTo bs k).length = bs.length := by simp [lowTo]; omega
theorem lowTo_get {bs : List UInt8} {k : Nat} (hk : k < bs.length) : (lowTo bs k).getD k 0 = bs[k] := by
  unfold lowTo
  rw [List.getD_eq_getElem?_getD, List.getElem?_append_right (by simp; omega)]
  simp [hk, Nat.min_eq_left (Nat.le_of_lt hk)]
theorem lowTo_set {bs : List UInt8} {k : Nat} (hk : k < bs.length) (c : UInt8) (hc : lowB bs[k] = c) : (lowTo bs k).set k c = lowTo bs (k + 1) := by
  unfold lowTo
  have h1 : ((bs.take k).map lowB).length = k := by simp; omega
  rw [List.set_append_right _ _ (by omega), h1, Nat.sub_self, List.drop_eq_getElem_cons hk, List.set_cons_zero, List.take_add_one, List.getElem?_eq_getElem hk, ← hc, List.map_append]
  simp only [Option.toList_some, List.map_cons, List.map_nil, List.append_assoc, List.singleton_append]
theorem lowTo_same {bs : List UInt8} {k : Nat} (hk : k < bs.length) (hc : lowB bs[k] = bs[k]) : lowTo bs k = lowTo bs (k + 1) := by
  unfold lowTo
  rw [List.take_add_one, List.getElem?_eq_getElem hk, List.drop_eq_getElem_cons hk, List.map_append]
  simp only [Option.toList_some, List.map_cons, List.map_nil, List.append_assoc, List.singleton_append, hc]
end Go.Proofs.YtlmmpcdjkpibcaaX
