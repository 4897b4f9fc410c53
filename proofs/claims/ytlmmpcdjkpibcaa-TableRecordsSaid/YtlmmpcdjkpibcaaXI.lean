/- Structs of numbers, texts and flags compared. Own lemmas, no program in sight. -/
import Derived.Test.YtlmmpcdjkpibcaaXH
namespace Go.Proofs.YtlmmpcdjkpibcaaX
set_option linter.unusedVariables false
set_option linter.unusedSimpArgs false
open Go Go.RowKit
variable {w0 w : World} {I : Imm} {L : Own} {P : Program} {l : Env} {ty : TypeId} {N : Nat}

inductive EK where
  | i (k : IntKind)
  | s
  | b
def ekOf (P : Program) (t : TypeId) : Option EK := match P.underlying t with
  | some (.int k) => some (.i k)
  | some .string => some .s
  | some .bool => some .b
  | _ => none
def EK.is : EK → Value → Bool
  | .i k, .int k' _ => k == k'
  | .s, .string _ => true
  | .b, .bool _ => true
  | _, _ => false
def veq : Value → Value → Bool
  | .int _ a, .int _ b => a == b
  | .string a, .string b => a == b
  | .bool a, .bool b => a == b
  | _, _ => false
theorem bytes_beq (a b : ByteArray) : (a == b) = (a.toList == b.toList) := by
  have h : (a == b) = (a.data == b.data) := rfl
  rw [h, ByteArray.toList_eq, ByteArray.toList_eq]
  by_cases e : a.data = b.data
  · rw [e]; simp
  · have e2 : (a.data == b.data) = false := by simpa using e
    have e3 : (a.data.toList == b.data.toList) = false := by rw [beq_eq_false_iff_ne]; exact fun x => e (Array.toList_inj.1 x)
    rw [e2, e3]
theorem bytes_beq_self (a : ByteArray) : (a == a) = true := by rw [bytes_beq]; simp
theorem veq_self {k : EK} {v : Value} (h : k.is v = true) : veq v v = true := by
  cases k <;> cases v <;> simp [EK.is, veq, bytes_beq_self] at h ⊢
theorem run_eqEK {d : Nat} {t : TypeId} {k : EK} {x y : Value} (ht : ekOf P t = some k) (hx : k.is x = true) (hy : k.is y = true) : (Op.equalIn (d + 1) t x y).run P w = .ok (veq x y) w := by
  unfold ekOf at ht
  cases hu : P.underlying t with
  | none => simp [hu] at ht
  | some dd =>
    simp only [hu] at ht
    cases dd <;> simp at ht <;> subst ht
    all_goals (cases x <;> simp [EK.is] at hx <;> cases y <;> simp [EK.is] at hy)
    all_goals (simp [Op.equalIn, run_underlying hu, veq])
    all_goals (subst hx hy; simp)
theorem run_partK {t : TypeId} {k : EK} {cs : Array Value} {off : Nat} {v : Value} (ht : ekOf P t = some k) (h : cs[off]? = some v) : (part t cs off).run P w = .ok v w := by
  unfold ekOf at ht
  unfold part
  simp only [Sem.run_bind]
  have h1 : (isAgg t).run P w = .ok false w := by
    unfold isAgg
    cases hu : P.underlying t with
    | none => simp [hu] at ht
    | some dd => simp only [hu] at ht; cases dd <;> simp at ht <;> simp [Sem.run_bind, run_underlying hu, Result.andThen]
  rw [h1]
  simp only [Result.andThen, Bool.false_eq_true, if_false, h]
  rfl
/-- A struct of such fields, field behind field. -/
def EM (P : Program) (t : TypeId) (ks : List EK) : Prop := ∃ fs : Array Field, P.underlying t = some (.struct fs) ∧ P.stoodInHeld t = false ∧ P.eqGuardType P.depth t = false ∧ fs.toList.length = ks.length ∧
  ∀ (i : Nat) (f : Field) (k : EK), fs.toList[i]? = some f → ks[i]? = some k → f.name ≠ "_" ∧ f.offset = i ∧ ekOf P f.type = some k
def EKs : List EK → List Value → Prop
  | [], [] => True
  | k :: ks, v :: vs => k.is v = true ∧ EKs ks vs
  | _, _ => False
theorem EKs.len : ∀ {ks : List EK} {vs : List Value}, EKs ks vs → ks.length = vs.length
  | [], [], _ => rfl
  | _ :: _, _ :: _, h => by simp [EKs.len h.2]
  | [], _ :: _, h => h.elim
  | _ :: _, [], h => h.elim
theorem EKs.get : ∀ {ks : List EK} {vs : List Value}, EKs ks vs → ∀ (i : Nat) (k : EK) (v : Value), ks[i]? = some k → vs[i]? = some v → k.is v = true
  | [], [], _, i, k, v, h, _ => by simp at h
  | _ :: _, _ :: _, hh, 0, k, v, h, h' => by simp at h h'; subst h h'; exact hh.1
  | _ :: _, _ :: _, hh, i + 1, k, v, h, h' => EKs.get hh.2 i k v (by simpa using h) (by simpa using h')
  | [], _ :: _, h, _, _, _, _, _ => h.elim
  | _ :: _, [], h, _, _, _, _, _ => h.elim
def veqs (xs ys : List Value) : Bool := (xs.zip ys).all fun p => veq p.1 p.2
theorem veqs_self : ∀ {ks : List EK} {vs : List Value}, EKs ks vs → veqs vs vs = true
  | [], [], _ => rfl
  | _ :: _, _ :: _, h => by
    have := veqs_self h.2
    unfold veqs at this ⊢
    rw [List.zip_cons_cons, List.all_cons, this, veq_self h.1]
    rfl
  | [], _ :: _, h => h.elim
  | _ :: _, [], h => h.elim
theorem run_eqFieldsM {d : Nat} {ks : List EK} {all : List Field} {xs ys : List Value} (hall : ∀ (i : Nat) (f : Field) (k : EK), all[i]? = some f → ks[i]? = some k → f.name ≠ "_" ∧ f.offset = i ∧ ekOf P f.type = some k) (hl : all.length = ks.length) (hx : EKs ks xs) (hy : EKs ks ys) :
    ∀ (n k : Nat), k + n = all.length → (Op.eqFields (d + 1) xs.toArray ys.toArray (all.drop k)).run P w = .ok (veqs (xs.drop k) (ys.drop k)) w
  | 0, k, hk => by
    have hxl := hx.len; have hyl := hy.len
    rw [List.drop_eq_nil_of_le (as := all) (by omega), List.drop_eq_nil_of_le (as := xs) (by omega)]
    simp [Op.eqFields, veqs]
  | n + 1, k, hk => by
    have hxl := hx.len; have hyl := hy.len
    have hka : k < all.length := by omega
    have hkx : k < xs.length := by omega
    have hky : k < ys.length := by omega
    have hkk : k < ks.length := by omega
    obtain ⟨hn, ho, ht⟩ := hall k all[k] ks[k] (List.getElem?_eq_getElem hka) (List.getElem?_eq_getElem hkk)
    have h1 := hx.get k _ _ (List.getElem?_eq_getElem hkk) (List.getElem?_eq_getElem hkx)
    have h2 := hy.get k _ _ (List.getElem?_eq_getElem hkk) (List.getElem?_eq_getElem hky)
    have ih := run_eqFieldsM (d := d) hall hl hx hy n (k + 1) (by omega)
    have ha : (part all[k].type xs.toArray all[k].offset).run P w = .ok xs[k] w := run_partK ht (by rw [ho]; simp [hkx])
    have hb : (part all[k].type ys.toArray all[k].offset).run P w = .ok ys[k] w := run_partK ht (by rw [ho]; simp [hky])
    rw [List.drop_eq_getElem_cons hka, Op.eqFields]
    simp only [if_pos hn, Sem.run_bind, ha, hb, run_eqEK (d := d) ht h1 h2, Result.andThen_ok]
    have e0 : veqs (xs.drop k) (ys.drop k) = (veq xs[k] ys[k] && veqs (xs.drop (k + 1)) (ys.drop (k + 1))) := by
      rw [List.drop_eq_getElem_cons hkx, List.drop_eq_getElem_cons hky]
      rfl
    rw [e0]
    cases hv : veq xs[k] ys[k] with
    | true => simpa using ih
    | false => simp
theorem run_eqM {t : TypeId} {ks : List EK} {xs ys : List Value} (ht : EM P t ks) (hx : EKs ks xs) (hy : EKs ks ys) :
    (Op.equalIn 10000 t (.agg xs.toArray) (.agg ys.toArray)).run P w = .ok (veqs xs ys) w ∧ P.eqGuardType P.depth t = false := by
  obtain ⟨fs, hu, hp, hg, hl, hall⟩ := ht
  have hf : P.fieldsOf t = fs := by simp [Program.fieldsOf, hu]
  refine ⟨?_, hg⟩
  rw [show (10000 : Nat) = 9999 + 1 from rfl, run_equalIn_struct (P := P) w 9999 t _ _ (by rw [hf]; exact hu) hp, hf]
  have := run_eqFieldsM (P := P) (w := w) (d := 9998) hall hl hx hy fs.toList.length 0 (by omega)
  simpa using this
theorem runs_eqM {t t' : TypeId} {x y : Operand} {ks : List EK} {us vs : Array Value} {xs ys : List Value} (ht : EM P t ks) (hx : ev l x = some (.agg us)) (hy : ev l y = some (.agg vs)) (hu : us = xs.toArray) (hv : vs = ys.toArray) (hxs : EKs ks xs) (hys : EKs ks ys) :
    Runs P (.binOp .eql t x y t') ty l w (.value (.bool (veqs xs ys))) w :=
  .of (fun ρ => do eqGuard .eql t x y (ρ x) (ρ y); binOp .eql t (ρ x) (ρ y)) (fun _ _ _ _ _ => rfl) fun ρ hρ => by
    subst hu hv
    obtain ⟨h3, h4⟩ := run_eqM (P := P) (w := w) ht hxs hys
    simp only [hρ x _ hx, hρ y _ hy, Sem.run_bind, run_eqGuard_agg w .eql t x y _ _ h4, Result.andThen_ok, run_eql_struct, h3]
theorem runs_neM {t t' : TypeId} {x y : Operand} {ks : List EK} {us vs : Array Value} {xs ys : List Value} (ht : EM P t ks) (hx : ev l x = some (.agg us)) (hy : ev l y = some (.agg vs)) (hu : us = xs.toArray) (hv : vs = ys.toArray) (hxs : EKs ks xs) (hys : EKs ks ys) :
    Runs P (.binOp .neq t x y t') ty l w (.value (.bool (!veqs xs ys))) w :=
  .of (fun ρ => do eqGuard .neq t x y (ρ x) (ρ y); binOp .neq t (ρ x) (ρ y)) (fun _ _ _ _ _ => rfl) fun ρ hρ => by
    subst hu hv
    obtain ⟨h3, h4⟩ := run_eqM (P := P) (w := w) ht hxs hys
    simp only [hρ x _ hx, hρ y _ hy, Sem.run_bind, run_eqGuard_agg w .neq t x y _ _ h4, Result.andThen_ok, run_neq_struct, h3]
/-- The tables' word, by one test. -/
def emB (P : Program) (t : TypeId) (ks : List EK) : Bool := match P.underlying t with
  | some (.struct fs) => !(P.stoodInHeld t) && !(P.eqGuardType P.depth t) && fs.toList.length == ks.length && (fs.toList.zipIdx.zip ks).all fun (p, k) => p.1.name != "_" && p.1.offset == p.2 && (match ekOf P p.1.type, k with | some (.i a), .i b => a == b | some .s, .s => true | some .b, .b => true | _, _ => false)
  | _ => false
theorem EM.of {t : TypeId} {ks : List EK} (h : emB P t ks = true) : EM P t ks := by
  unfold emB at h
  cases hu : P.underlying t with
  | none => simp [hu] at h
  | some d =>
    cases d <;> simp only [hu] at h <;> try (exact absurd h (by decide))
    rename_i fs
    simp only [Bool.and_eq_true, Bool.not_eq_true', beq_iff_eq, List.all_eq_true] at h
    obtain ⟨⟨⟨hp, hg⟩, hl⟩, hall⟩ := h
    refine ⟨fs, hu, hp, hg, hl, fun i f k hf hk => ?_⟩
    have hm : ((f, i), k) ∈ fs.toList.zipIdx.zip ks := by
      refine List.mem_of_getElem? (i := i) ?_
      rw [List.getElem?_zip_eq_some]
      exact ⟨by rw [List.getElem?_zipIdx, hf]; simp, hk⟩
    have h2 := hall _ hm
    simp only [Bool.and_eq_true, bne_iff_ne, beq_iff_eq] at h2
    refine ⟨h2.1.1, h2.1.2, ?_⟩
    have h3 := h2.2
    cases he : ekOf P f.type with
    | none => rw [he] at h3; cases h3
    | some e => rw [he] at h3; cases e <;> cases k <;> simp at h3 ⊢; exact h3
end Go.Proofs.YtlmmpcdjkpibcaaX
