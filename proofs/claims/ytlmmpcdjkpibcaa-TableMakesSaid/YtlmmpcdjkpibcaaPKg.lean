/- Parts of a proof, joined: walks through the program's functions and their laws, in the order in which they need each other. -/
import Derived.Test.YtlmmpcdjkpibcaaPKf
import Derived.Test.YtlmmpcdjkpibcaaPKb
import Derived.Test.YtlmmpcdjkpibcaaPKc
import Derived.Lib.SplitLaws
import Derived.Lib.SlicesS
namespace Go.Proofs.YtlmmpcdjkpibcaaX
set_option linter.unusedVariables false
set_option linter.unusedSimpArgs false
open Go Go.RowKit
def absT (rows : List TRow) : List (Int × It) := rows.map fun r => (r.1, r.2.1)
theorem absT_keys (rows : List TRow) : (absT rows).map Prod.fst = rows.map Prod.fst := by unfold absT; rw [List.map_map]; rfl
theorem absT_keysUp (rows : List TRow) : keysUp (absT rows) = keysUp rows := by unfold keysUp; rw [absT_keys]
theorem absT_get (rows : List TRow) (k : Int) : pget (absT rows) k = (pget rows k).map Prod.fst := pget_map Prod.fst rows k
theorem absT_put (rows : List TRow) (k : Int) (p : It × Value) : absT (pput rows k p) = pput (absT rows) k p.1 := pput_map Prod.fst rows k p
theorem absT_del (rows : List TRow) (k : Int) : absT (pdel rows k) = pdel (absT rows) k := pdel_map Prod.fst rows k
def itA (A : List (Int × It)) (k : Int) : It := (pget A k).getD zeroIt
def recsA (A : List (Int × It)) (next : Int) : List (List UInt8) := encA [.txt nextS, .num next] :: (keysUp A).map fun k => recB (itA A k)
theorem ck_join (b : List UInt8) : ∀ m, m ≤ ckCnt b.length → (List.range m).flatMap (ckL b) = b.take (200 * m)
  | 0, _ => by simp
  | m + 1, h => by
    have h1 : 200 * m < b.length := by unfold ckCnt at h; omega
    rw [List.range_succ, List.flatMap_append, ck_join b m (by omega), List.flatMap_cons, List.flatMap_nil, List.append_nil]
    unfold ckL ckHi
    rw [show 200 * (m + 1) = 200 * m + 200 by omega, List.take_add]
    congr 1
    by_cases h2 : 200 * m + 200 ≤ b.length
    · rw [Nat.min_eq_left h2]; congr 1; omega
    · rw [Nat.min_eq_right (by omega), List.take_of_length_le (by rw [List.length_drop]; omega), List.take_of_length_le (by rw [List.length_drop]; omega)]
theorem allB_rec (b : List UInt8) : allB (recAV b (ckCnt b.length)) = b := by
  unfold allB recAV
  rw [List.drop_succ_cons, List.drop_zero, List.flatMap_map]
  have e : (List.range (ckCnt b.length)).flatMap (fun k => txtL (.txt (strOf (ckL b k)))) = (List.range (ckCnt b.length)).flatMap (ckL b) := by
    congr 1
    funext k
    exact strOf_toList _
  rw [e, ck_join b _ (Nat.le_refl _)]
  exact List.take_of_length_le (by unfold ckCnt; omega)
theorem putOk_rec {it : It} (hok : ItOk it) (ho : encOk (itAV it) = true) : putOk (recAV (encA (itAV it)) (ckCnt (encA (itAV it)).length)) (recB it) = some it := by
  unfold putOk
  rw [allB_rec, decIt_self hok ho]
  exact if_pos rfl
theorem decA_rec (it : It) : decA (recB it) = some (recAV (encA (itAV it)) (ckCnt (encA (itAV it)).length)) := by
  unfold recB
  exact decA_encA (Nat.le_refl 255) (recAV_good _ _)
theorem Ap_put {it : It} (hok : ItOk it) (ho : encOk (itAV it) = true) {rows rows' : List TRow} {next next' err : Int} (ha : Ap (recB it) rows next err rows' next') : err = 0 ∧ (∃ v, rows' = pput rows it.id (it, v)) ∧ next' = nextR next it.id := by
  have hw : wordOf (recAV (encA (itAV it)) (ckCnt (encA (itAV it)).length)) = putL := wordOf_txt putL _
  unfold Ap at ha
  rw [decA_rec, Option.getD_some, if_pos hw, putOk_rec hok ho] at ha
  exact ha
theorem recB_len {it : It} (ho : encOk (itAV it) = true) : (recB it).length ≤ (ckCnt ((25 + it.heads.length * 2) * 257) + 1) * 257 := by
  have h1 := encA_le ho
  rw [itAV_len] at h1
  have h2 := encA_le (good_encOk (recAV_good (encA (itAV it)) (ckCnt (encA (itAV it)).length)) (Nat.le_refl 255))
  rw [recAV_len] at h2
  have h3 : ckCnt (encA (itAV it)).length ≤ ckCnt ((25 + it.heads.length * 2) * 257) := by unfold ckCnt; omega
  unfold recB
  refine Nat.le_trans h2 (Nat.mul_le_mul_right _ (by omega))
theorem pput_new {α : Type} {A : List (Int × α)} {k : Int} {v : α} (h : k ∉ A.map Prod.fst) : pput A k v = A ++ [(k, v)] := by
  induction A with
  | nil => rfl
  | cons p t ih =>
    obtain ⟨a, u⟩ := p
    rw [List.map_cons, List.mem_cons, not_or] at h
    unfold pput
    rw [if_neg h.1, ih h.2]
    rfl
def mkT (A : List (Int × It)) (j : Nat) : List (Int × It) := ((keysUp A).take j).map fun k => (k, itA A k)
theorem mkT_step {A : List (Int × It)} (hn : (A.map Prod.fst).Nodup) (hid : ∀ r ∈ A, r.2.id = r.1) {j : Nat} {k : Int} (hk : (keysUp A)[j]? = some k) : (itA A k).id = k ∧ pput (mkT A j) k (itA A k) = mkT A (j + 1) := by
  have hkm : k ∈ A.map Prod.fst := (keysUp_mem A k).1 (List.mem_of_getElem? hk)
  obtain ⟨it, hit⟩ : ∃ it, pget A k = some it := by
    cases h : pget A k with
    | none => exact absurd hkm (pget_none.1 h)
    | some it => exact ⟨it, rfl⟩
  have h1 : itA A k = it := by unfold itA; rw [hit]; rfl
  refine ⟨by rw [h1]; exact hid _ (pget_mem hit), ?_⟩
  unfold mkT
  rw [List.take_add_one, hk, List.map_append]
  refine pput_new ?_
  rw [List.map_map]
  intro hm
  have hm2 : k ∈ (keysUp A).take j := by
    obtain ⟨q, hq, e⟩ := List.mem_map.1 hm
    have e2 : q = k := e
    rw [← e2]; exact hq
  have hlt := keysUp_lt hn
  obtain ⟨i, hi, e⟩ := List.getElem_of_mem hm2
  rw [List.length_take] at hi
  rw [List.getElem_take] at e
  obtain ⟨hj, ej⟩ := List.getElem?_eq_some_iff.1 hk
  have := List.pairwise_iff_getElem.1 hlt i j (by omega) hj (by omega)
  omega
theorem mkT_keys (A : List (Int × It)) : (mkT A (keysUp A).length).map Prod.fst = keysUp A := by
  unfold mkT
  rw [List.take_of_length_le (Nat.le_refl _), List.map_map]
  exact List.map_id'' (fun _ => rfl) _
theorem mkT_keysUp (A : List (Int × It)) : keysUp (mkT A (keysUp A).length) = keysUp A := by
  have h : keysUp (mkT A (keysUp A).length) = (keysUp A).mergeSort fun x y => decide (x ≤ y) := by
    show ((mkT A (keysUp A).length).map Prod.fst).mergeSort _ = _
    rw [mkT_keys]
  rw [h]
  refine List.mergeSort_of_pairwise ?_
  unfold keysUp
  exact List.pairwise_mergeSort (fun a b c h1 h2 => by simp only [decide_eq_true_eq] at *; omega) (fun a b => by simp only [Bool.or_eq_true, decide_eq_true_eq]; omega) _
theorem mkT_get {A : List (Int × It)} (hn : (A.map Prod.fst).Nodup) (k : Int) : pget (mkT A (keysUp A).length) k = pget A k := by
  by_cases hk : k ∈ A.map Prod.fst
  · obtain ⟨it, hit⟩ : ∃ it, pget A k = some it := by
      cases h : pget A k with
      | none => exact absurd hk (pget_none.1 h)
      | some it => exact ⟨it, rfl⟩
    rw [hit]
    refine pget_some (by rw [mkT_keys]; exact (List.mergeSort_perm _ _).nodup_iff.2 hn) ?_
    unfold mkT
    rw [List.take_of_length_le (Nat.le_refl _)]
    refine List.mem_map.2 ⟨k, (keysUp_mem A k).2 hk, ?_⟩
    unfold itA
    rw [hit]
    rfl
  · rw [pget_none.2 hk]
    refine pget_none.2 ?_
    rw [mkT_keys]
    exact fun h => hk ((keysUp_mem A k).1 h)
theorem recsA_mk {A : List (Int × It)} (hn : (A.map Prod.fst).Nodup) (next : Int) : recsA (mkT A (keysUp A).length) next = recsA A next := by
  unfold recsA
  rw [mkT_keysUp]
  congr 1
  refine List.map_congr_left fun k _ => ?_
  unfold itA
  rw [mkT_get hn]
theorem recsA_len (A : List (Int × It)) (next : Int) : (recsA A next).length = A.length + 1 := by
  unfold recsA
  rw [List.length_cons, List.length_map, keysUp_len]
theorem recsA_succ {A : List (Int × It)} {next : Int} {j : Nat} {b : List UInt8} (h : (recsA A next)[j + 1]? = some b) : ∃ k, (keysUp A)[j]? = some k ∧ b = recB (itA A k) := by
  unfold recsA at h
  rw [List.getElem?_cons_succ, List.getElem?_map] at h
  cases hk : (keysUp A)[j]? with
  | none => rw [hk] at h; cases h
  | some k => rw [hk] at h; exact ⟨k, rfl, (Option.some.inj h).symm⟩
structure TbI (A : List (Int × It)) (next : Int) : Prop where
  nd : (A.map Prod.fst).Nodup
  id : ∀ r ∈ A, r.2.id = r.1
  ok : ∀ r ∈ A, ItOk r.2 ∧ encOk (itAV r.2) = true
  lt : ∀ r ∈ A, 1 ≤ r.1 ∧ r.1 < next
  nx : 1 ≤ next
  nz : next ≤ 1000000
  hl : ∀ r ∈ A, r.2.heads.length ≤ 1000
theorem TbI.nil : TbI [] 1 := ⟨by simp, by simp, by simp, by simp, by decide, by decide, by simp⟩
theorem TbI.itA_ok {A : List (Int × It)} {next : Int} (h : TbI A next) {k : Int} (hk : k ∈ keysUp A) : ItOk (itA A k) ∧ encOk (itAV (itA A k)) = true ∧ 1 ≤ k ∧ k < next ∧ (itA A k).heads.length ≤ 1000 := by
  have hk2 := (keysUp_mem A k).1 hk
  obtain ⟨it, hit⟩ : ∃ it, pget A k = some it := by
    cases h2 : pget A k with
    | none => exact absurd hk2 (pget_none.1 h2)
    | some it => exact ⟨it, rfl⟩
  have h1 : itA A k = it := by unfold itA; rw [hit]; rfl
  rw [h1]
  have hm := pget_mem hit
  exact ⟨(h.ok _ hm).1, (h.ok _ hm).2, (h.lt _ hm).1, (h.lt _ hm).2, h.hl _ hm⟩
theorem TbI.put {A : List (Int × It)} {next : Int} (h : TbI A next) {it : It} (hok : ItOk it) (ho : encOk (itAV it) = true) (h1 : 1 ≤ it.id) (h2 : it.id < 999999) (h3 : it.heads.length ≤ 1000) : TbI (pput A it.id it) (nextR next it.id) ∧ nextR next it.id = (if it.id + 1 > next then it.id + 1 else next) := by
  have e : nextR next it.id = (if it.id + 1 > next then it.id + 1 else next) := nextR_of (by unfold i64ok; omega)
  have hx := h.nx
  have hz := h.nz
  refine ⟨⟨pput_nodup h.nd _ _, ?_, ?_, ?_, ?_, ?_, ?_⟩, e⟩
  · intro r hr
    rcases pput_mem hr with rfl | hr
    · rfl
    · exact h.id r hr
  · intro r hr
    rcases pput_mem hr with rfl | hr
    · exact ⟨hok, ho⟩
    · exact h.ok r hr
  · intro r hr
    rw [e]
    rcases pput_mem hr with rfl | hr
    · dsimp only; split <;> omega
    · have := h.lt r hr; split <;> omega
  · rw [e]; split <;> omega
  · rw [e]; split <;> omega
  · intro r hr
    rcases pput_mem hr with rfl | hr
    · exact h3
    · exact h.hl r hr
theorem TbI.del {A : List (Int × It)} {next : Int} (h : TbI A next) (k : Int) : TbI (pdel A k) next :=
  ⟨pdel_nodup h.nd _, fun r hr => h.id r (pdel_mem hr), fun r hr => h.ok r (pdel_mem hr), fun r hr => h.lt r (pdel_mem hr), h.nx, h.nz, fun r hr => h.hl r (pdel_mem hr)⟩
theorem remake_step {A : List (Int × It)} {next : Int} (h : TbI A next) {j : Nat} {b : List UInt8} (hb : (recsA A next)[j]? = some b) {rows rows' : List TRow} {nx nx' err : Int} (hj : (j = 0 ∧ rows = [] ∧ nx = 1) ∨ (1 ≤ j ∧ absT rows = mkT A (j - 1) ∧ nx = next)) (ha : Ap b rows nx err rows' nx') : err = 0 ∧ absT rows' = mkT A j ∧ nx' = next := by
  have hx := h.nx
  have hz := h.nz
  rcases hj with ⟨rfl, rfl, rfl⟩ | ⟨h1, h2, rfl⟩
  · have hb2 : encA [.txt nextS, .num next] = b := Option.some.inj hb
    subst hb2
    obtain ⟨e1, e2, e3⟩ := Ap_next (decA_encA (Nat.le_refl 255) (two_good (by decide) (by unfold i64ok; omega))) ha
    refine ⟨e1, by rw [e2]; rfl, ?_⟩
    rw [e3]; split <;> omega
  · obtain ⟨j, rfl⟩ : ∃ i, j = i + 1 := ⟨j - 1, by omega⟩
    obtain ⟨k, hk, rfl⟩ := recsA_succ hb
    obtain ⟨i1, i2, i3, i4, i5⟩ := h.itA_ok (List.mem_of_getElem? hk)
    obtain ⟨e1, ⟨v, e2⟩, e3⟩ := Ap_put i1 i2 ha
    obtain ⟨m1, m2⟩ := mkT_step h.nd h.id hk
    refine ⟨e1, ?_, ?_⟩
    · rw [e2, absT_put, h2, m1, Nat.add_sub_cancel]
      exact m2
    · rw [e3, m1, nextR_of (by unfold i64ok; omega)]
      split <;> omega
theorem recsA_bound {A : List (Int × It)} {next : Int} (h : TbI A next) {j : Nat} {b : List UInt8} (hb : (recsA A next)[j]? = some b) : b.length ≤ 1000000 := by
  have hx := h.nx
  have hz := h.nz
  cases j with
  | zero =>
    have hb2 : encA [.txt nextS, .num next] = b := Option.some.inj hb
    rw [← hb2]
    have := encA_le (two_ok (t := nextS) (by decide) (n := next) (by unfold i64ok; omega))
    have e : ([AV.txt nextS, AV.num next] : List AV).length = 2 := rfl
    rw [e] at this
    omega
  | succ j =>
    obtain ⟨k, hk, rfl⟩ := recsA_succ hb
    obtain ⟨i1, i2, i3, i4, i5⟩ := h.itA_ok (List.mem_of_getElem? hk)
    refine Nat.le_trans (recB_len i2) ?_
    unfold ckCnt
    omega
theorem TbI.rows {rows : List TRow} {next : Int} (h : TbI (absT rows) next) : ∀ r ∈ rows, ItOk r.2.1 ∧ encOk (itAV r.2.1) = true := fun r hr => h.ok (r.1, r.2.1) (List.mem_map.2 ⟨r, hr, rfl⟩)
theorem remade {A : List (Int × It)} {next : Int} (h : TbI A next) {rows : List TRow} (hr : absT rows = mkT A (keysUp A).length) : TbI (absT rows) next ∧ recsA (absT rows) next = recsA A next ∧ keysUp rows = keysUp A ∧ rows.length = A.length ∧ ∀ k, (pget rows k).map Prod.fst = pget A k := by
  refine ⟨?_, by rw [hr, recsA_mk h.nd], by rw [← absT_keysUp, hr, mkT_keysUp], ?_, fun k => by rw [← absT_get, hr, mkT_get h.nd]⟩
  · rw [hr]
    have hm : ∀ r ∈ mkT A (keysUp A).length, ∃ k ∈ keysUp A, r = (k, itA A k) := by
      intro r hr2
      unfold mkT at hr2
      rw [List.take_of_length_le (Nat.le_refl _)] at hr2
      obtain ⟨k, hk, e⟩ := List.mem_map.1 hr2
      exact ⟨k, hk, e.symm⟩
    refine ⟨by rw [mkT_keys]; exact (List.mergeSort_perm _ _).nodup_iff.2 h.nd, ?_, ?_, ?_, h.nx, h.nz, ?_⟩
    · intro r hr2
      obtain ⟨k, hk, rfl⟩ := hm r hr2
      obtain ⟨i, hi⟩ := List.getElem?_of_mem hk
      exact (mkT_step h.nd h.id hi).1
    · intro r hr2
      obtain ⟨k, hk, rfl⟩ := hm r hr2
      exact ⟨(h.itA_ok hk).1, (h.itA_ok hk).2.1⟩
    · intro r hr2
      obtain ⟨k, hk, rfl⟩ := hm r hr2
      exact ⟨(h.itA_ok hk).2.2.1, (h.itA_ok hk).2.2.2.1⟩
    · intro r hr2
      obtain ⟨k, hk, rfl⟩ := hm r hr2
      exact (h.itA_ok hk).2.2.2.2
  · have e1 : (absT rows).length = rows.length := by unfold absT; rw [List.length_map]
    rw [← e1, hr]
    unfold mkT
    rw [List.length_map, List.take_of_length_le (Nat.le_refl _), keysUp_len]
theorem pdel_len {α : Type} (rows : List (Int × α)) (k : Int) : (pdel rows k).length ≤ rows.length := by
  have h := congrArg List.length (pdel_keys rows k)
  rw [List.length_map] at h
  rw [h]
  have h2 := List.length_erase_le (a := k) (l := rows.map Prod.fst)
  rw [List.length_map] at h2
  exact h2
theorem pput_len {α : Type} (rows : List (Int × α)) (k : Int) (v : α) : (pput rows k v).length ≤ rows.length + 1 := by
  have h := congrArg List.length (pput_keys rows k v)
  rw [List.length_map] at h
  rw [h]
  split
  · rw [List.length_map]; omega
  · rw [List.length_append, List.length_map]; simp
end Go.Proofs.YtlmmpcdjkpibcaaX
namespace Go.Proofs.YtlmmpcdjkpibcaaX
set_option linter.unusedVariables false
set_option linter.unusedSimpArgs false
open Go Go.RowKit Go.Proofs
def refRow : AV → List Value
  | .num n => [.int .i64 1, .int .i64 n, .string ⟨#[]⟩, .bool false]
  | .txt s => [.int .i64 2, .int .i64 0, .string s, .bool false]
  | .flg t => [.int .i64 3, .int .i64 0, .string ⟨#[]⟩, .bool t]
  | .oth _ => [.int .i64 0, .int .i64 0, .string ⟨#[]⟩, .bool false]
theorem refRow_len (a : AV) : (refRow a).length = 4 := by cases a <;> rfl
abbrev RdV (I : Imm) (v : Value) (av : List AV) : Prop := RdL I 4 v av.length (av.flatMap refRow)
abbrev GrowV (v : Value) (av : List AV) (Lv : Own) : Prop := Grow 129 4 v av.length (av.flatMap refRow) Lv
theorem GrowV.push {v : Value} {av : List AV} {a : AV} {Lv : Own} (h : Grow 129 4 v (av.length + 1) (av.flatMap refRow ++ refRow a) Lv) : GrowV v (av ++ [a]) Lv := by
  unfold GrowV
  rw [List.length_append, List.flatMap_append, List.flatMap_cons, List.flatMap_nil, List.append_nil]
  exact h
theorem RdV.row {av : List AV} {k : Nat} {a : AV} (ha : av[k]? = some a) : ∀ (j : Nat) (u : Value), (refRow a)[j]? = some u → (av.flatMap refRow)[k * 4 + j]? = some u := by
  intro j u hj
  have h2 : j < 4 := by have := (List.getElem?_eq_some_iff.1 hj).1; rwa [refRow_len] at this
  rw [getElem?_flat refRow_len av k j h2, ha]
  exact hj
end Go.Proofs.YtlmmpcdjkpibcaaX
namespace Go.Proofs.YtlmmpcdjkpibcaaX
set_option linter.unusedVariables false
set_option linter.unusedSimpArgs false
open Go Go.RowKit
variable {w0 w : World} {I : Imm} {L : Own} {P : Program} {l : Env} {ty : TypeId}
def GrowR (I : Imm) (e : TypeId) (v : Value) (bss : List (List UInt8)) (Lv : Own) : Prop :=
  ∃ vs : List Value, Grow e 1 v vs.length vs Lv ∧ vs.length = bss.length ∧ ∀ (i : Nat) (u : Value) (b : List UInt8), vs[i]? = some u → bss[i]? = some b → RdB I u b
theorem GrowR.mono {I' : Imm} {e : TypeId} {v : Value} {bss : List (List UInt8)} {Lv : Own} (h : GrowR I e v bss Lv) (hI : I.le I') : GrowR I' e v bss Lv :=
  let ⟨vs, h1, h2, h3⟩ := h
  ⟨vs, h1, h2, fun i u b h4 h5 => RdL.mono hI (h3 i u b h4 h5)⟩
theorem GrowR.nil (e : TypeId) : GrowR I e (.slice none 0 0) [] [] := ⟨[], Grow.nil e 1, rfl, fun i u b h => by simp at h⟩
theorem GrowR.freeze {e : TypeId} {v : Value} {bss : List (List UInt8)} {Lv : Own} (hg : GrowR I e v bss Lv) (h : St w0 w I (Lv ++ L)) : ∃ I' vs, I.le I' ∧ St w0 w I' L ∧ RdR I' v vs bss := by
  obtain ⟨vs, h1, h2, h3⟩ := hg
  obtain ⟨I', h4, h5, h6⟩ := h1.freeze h
  exact ⟨I', vs, h4, h5, h6, h2, fun i u b h7 h8 => RdL.mono h4 (h3 i u b h7 h8)⟩
theorem rows_snoc {vs : List Value} {bss : List (List UInt8)} {c : Value} {b : List UInt8} (hl : vs.length = bss.length) (h : ∀ (i : Nat) (u : Value) (b : List UInt8), vs[i]? = some u → bss[i]? = some b → RdB I u b) (hc : RdB I c b) :
    ∀ (i : Nat) (u : Value) (d : List UInt8), (vs ++ [c])[i]? = some u → (bss ++ [b])[i]? = some d → RdB I u d := by
  intro i u d h1 h2
  by_cases hi : i < vs.length
  · rw [List.getElem?_append_left hi] at h1
    rw [List.getElem?_append_left (by omega)] at h2
    exact h i u d h1 h2
  · rw [List.getElem?_append_right (by omega)] at h1
    rw [List.getElem?_append_right (by omega)] at h2
    have h3 := (List.getElem?_eq_some_iff.1 h1).1
    have h4 : i - vs.length = 0 := by simp at h3; omega
    rw [h4] at h1
    rw [show i - bss.length = 0 by omega] at h2
    simp at h1 h2
    subst h1 h2
    exact hc
theorem runs_appendRow {t e : TypeId} {z : Value} {bytes : Nat} (ht : P.underlying t = some (.slice e)) (he : TI P e z 1 bytes) (hz : z.cells.size = 1) {x y : Operand} {v u c : Value} {bss : List (List UInt8)} {b : List UInt8} {Lv : Own} (hx : ev l x = some v) (hy : ev l y = some u)
    (hst : St w0 w I (Lv ++ L)) (hg : GrowR I e v bss Lv) (hr : RdL I 1 u 1 [c]) (hc : RdB I c b) (hb : (bss.length + 1) * bytes ≤ 140737488355328) (hmax : bss.length + 1 ≤ maxLen) :
    ∃ v' w', Runs P (.call ⟨.builtin .append, #[x, y], #[t, t]⟩) ty l w (.value v') w' ∧ ∃ Lv', St w0 w' I (Lv' ++ L) ∧ GrowR I e v' (bss ++ [b]) Lv' := by
  obtain ⟨vs, h1, h2, h3⟩ := hg
  obtain ⟨v', w', h4, Lv', h5, h6⟩ := runs_appendR (ty := ty) ht he hz (by decide) hx hy hst h1 hr (by rw [h2]; exact hb) (by rw [h2]; exact hmax)
  exact ⟨v', w', h4, Lv', h5, vs ++ [c], by simpa using h6, by simp [h2], rows_snoc h2 h3 hc⟩
end Go.Proofs.YtlmmpcdjkpibcaaX
namespace Go.Proofs.YtlmmpcdjkpibcaaX
set_option linter.unusedVariables false
set_option linter.unusedSimpArgs false
open Go Go.RowKit Go.Proofs
theorem GrowR.one {I : Imm} {e : TypeId} {v u : Value} {b : List UInt8} {Lv : Own} (h : Grow e 1 v 1 [u] Lv) (hb : RdB I u b) : GrowR I e v [b] Lv := by
  refine ⟨[u], h, rfl, fun i x d h1 h2 => ?_⟩
  have hi : i = 0 := by have := (List.getElem?_eq_some_iff.1 h1).1; simp at this; exact this
  subst hi
  cases h1
  cases h2
  exact hb
theorem take_one {α : Type} {l : List α} {k : Nat} {a : α} (h : l[k]? = some a) : l.take (k + 1) = l.take k ++ [a] := by rw [List.take_add_one, h]; rfl
set_option maxRecDepth 100000 in
set_option maxHeartbeats 4000000 in
theorem records_own {w0 w : World} {I : Imm} {L : Own} {rows : List TRow} {next : Int} {bT : Nat} {Lt : Own} (hd : TbO I rows next bT Lt) (hst : St w0 w I (Lt ++ L)) (hz : rows.length ≤ 1000000) (hrow : ∀ r ∈ rows, ItOk r.2.1 ∧ encOk (itAV r.2.1) = true) :
    Calls Try.prog 23 #[.pointer (some ⟨bT, 0, none⟩)] w fun e w' => ∃ I' v' Lo, I.le I' ∧ e = .returned (.tuple #[v', .int .i64 0]) ∧ St w0 w' I' (Lo ++ (Lt ++ L)) ∧ GrowR I' 43 v' (recsA (absT rows) next) Lo := by
  have hd0 := hd
  obtain ⟨bM, oM, rfl, hm, hnd, hrows, hnx⟩ := hd0
  refine enter Try.func23 rfl (N := 50) rfl rfl ?_
  simp only [List.zipIdx_cons, List.zipIdx_nil, List.map_cons, List.map_nil, Nat.zero_add, Nat.reduceAdd]
  have hle := Imm.le.refl I
  refine CW.seq ?_
  refine CW.region ?_
  refine RW.op1 rfl (runs_assign rfl) ?_
  refine RW.op1 rfl (runs_assign rfl) ?_
  refine RW.done ?_
  refine AQ.next ?_
  refine CW.seq ?_
  refine CW.region ?_
  refine RW.op1 rfl (runs_makeIface con9 rfl) ?_
  refine RW.op1 rfl (runs_move rfl) ?_
  refine RW.op1 rfl (runs_nilCheck rfl) ?_
  first
    | refine RW.op1 rfl (runs_fieldAddr0 rfl Try.underlying67 rfl ti3 (by decide)) ?_
    | refine RW.op1 rfl (runs_fieldAddr rfl Try.underlying67 rfl ti3 (by decide)) ?_
  first
    | refine RW.op1 rfl (runs_load1 sc3 rfl (hst.cell_own (k := 0) rfl rfl)) ?_
    | refine RW.op1 rfl (runs_load1 sc3 rfl (hst.cell_own (k := 1) rfl rfl)) ?_
    | refine RW.op1 rfl (runs_load1 sc3 rfl (hst.cell_own (k := 2) rfl rfl)) ?_
  refine RW.op1 rfl (runs_makeIface con3 rfl) ?_
  refine RW.opE rfl (runs_lit1R (xs := ([.txt nextS, .num next] : List AV).map AV.v) Try.underlying50 ti20 (by decide) rfl rfl rfl (by simp [AV.v, Value.oneCell']) hst) ?_
  rintro u1 w ⟨I1, hI1, hstn, h1⟩
  clear hst
  have hst := hstn
  clear hstn
  replace hd := hd.mono hI1
  replace hle := hle.trans hI1
  have hA18 : RdA _ u1 [.txt nextS, .num next] := h1
  refine RW.call rfl call16 rfl rfl (enc_spec hst hA18 (two_good (by decide) hnx) (show 2 ≤ 100000000000 by decide)) ?_
  rintro e w ⟨J19, v19, hJ19, rfl, hstn, hv19⟩
  clear hst
  have hst := hstn
  clear hstn
  rw [two_ok (by decide) hnx] at hv19 ⊢
  rw [if_pos rfl] at hv19
  replace hd := hd.mono hJ19
  replace h1 := h1.mono hJ19
  replace hA18 := hA18.mono hJ19
  replace hle := hle.trans hJ19
  refine ⟨_, rfl, ?_⟩
  refine RW.op1 rfl (runs_move rfl) ?_
  refine RW.op1 rfl (runs_extract rfl rfl) ?_
  refine RW.op1 rfl (runs_extract rfl rfl) ?_
  refine RW.op1 rfl (runs_assign rfl) ?_
  refine RW.op1 rfl (runs_assign rfl) ?_
  refine RW.done ?_
  refine AQ.next ?_
  refine CW.seq ?_
  refine CW.region ?_
  refine RW.op1 rfl (runs_move rfl) ?_
  refine RW.opE rfl (runs_lit1 (xs := [v19]) Try.underlying57 ti43 (by decide) rfl rfl rfl (by intro u hu; rw [List.mem_singleton.1 hu]; exact RdL.one hv19) hst) ?_
  rintro u3 w ⟨Lv3, hstn, hg3⟩
  clear hst
  have hst := hstn
  clear hstn
  replace hst := hst.perm (permAB (X := Lv3) (Y := [(bT, Obj.cells #[Value.map (some bM), Value.int IntKind.i64 next] 67), (bM, oM)]))
  have hgr := GrowR.one hg3 hv19
  obtain ⟨vo, hvo⟩ : ∃ v, v = u3 := ⟨_, rfl⟩
  obtain ⟨Lo, hLo⟩ : ∃ v, v = Lv3 := ⟨_, rfl⟩
  subst hvo hLo
  refine RW.op1 rfl (runs_assign rfl) ?_
  refine RW.done ?_
  refine AQ.next ?_
  refine CW.seq ?_
  refine CW.seq ?_
  refine CW.region ?_
  refine RW.op1 rfl (runs_move rfl) ?_
  refine RW.call rfl call12 rfl rfl (ids_spec (L := Lo ++ L) hd hst hz) ?_
  rintro e w ⟨J25, v25, hJ25, rfl, hstn, hv25⟩
  clear hst
  have hst := hstn
  clear hstn
  replace hgr := hgr.mono hJ25
  replace hd := hd.mono hJ25
  replace h1 := h1.mono hJ25
  replace hA18 := hA18.mono hJ25
  replace hv19 := hv19.mono hJ25
  replace hle := hle.trans hJ25
  refine ⟨_, rfl, ?_⟩
  refine RW.op1 rfl (RdL.len Try.underlying22 rfl hv25) ?_
  refine RW.op1 rfl (runs_move rfl) ?_
  refine RW.done ?_
  refine AQ.next ?_
  refine CW.block ?_
  refine CW.loop (Nat × Imm × Value × Own) (fun x w => I.le x.2.1 ∧ TbO x.2.1 rows next bT [(bT, Obj.cells #[Value.map (some bM), Value.int IntKind.i64 next] 67), (bM, oM)] ∧ RdI x.2.1 v25 (keysUp rows) ∧ St w0 w x.2.1 ([(bT, Obj.cells #[Value.map (some bM), Value.int IntKind.i64 next] 67), (bM, oM)] ++ (x.2.2.2 ++ L)) ∧ GrowR x.2.1 43 x.2.2.1 ((recsA (absT rows) next).take (x.1 + 1)) x.2.2.2 ∧ x.1 ≤ (keysUp rows).length) (fun x => [(0, .pointer (some ⟨bT, 0, none⟩)), (6, x.2.2.1), (25, v25), (26, .int .i64 ((keysUp rows).length : Nat)), (27, .int .i64 (x.1 : Int))]) (fun x => (keysUp rows).length - x.1) ⟨(0, _, vo, Lo), ⟨hle, hd, hv25, hst, hgr, Nat.zero_le _⟩, ⟨rfl, rfl, rfl, rfl, rfl, trivial⟩⟩ ?_
  clear hle hd hv25 hst hgr
  rintro ⟨k, J, vo, Lo⟩ w ⟨hle, hd, hv25, hstn, hgr, hk⟩
  dsimp only at hle hd hv25 hstn hgr hk ⊢
  have hst := hstn
  clear hstn
  refine CW.seq ?_
  refine CW.region ?_
  refine RW.op1 rfl (runs_lss rfl rfl) ?_
  refine RW.done ?_
  refine AQ.next ?_
  refine CW.seq ?_
  refine CW.cond rfl (fun hc28 => ?_) (fun hc28 => ?_)
  · have hcb28 := hc28
    try simp only [decide_eq_true_eq, decide_eq_false_iff_not] at hc28
    have hk1 : k < (keysUp rows).length := by omega
    obtain ⟨kk, hkk⟩ : ∃ kk, (keysUp rows)[k]? = some kk := ⟨_, List.getElem?_eq_getElem hk1⟩
    have hki : iat (keysUp rows) (k : Int) = kk := by unfold iat; rw [Int.toNat_natCast, List.getD_eq_getElem?_getD, hkk]; rfl
    have hkm := (keysUp_mem rows kk).1 (List.mem_of_getElem? hkk)
    obtain ⟨⟨it, vh⟩, hit⟩ : ∃ p, pget rows kk = some p := by
      cases h : pget rows kk with
      | none => exact absurd hkm (pget_none.1 h)
      | some p => exact ⟨p, rfl⟩
    have hrm := pget_mem hit
    obtain ⟨hiok, hien⟩ := hrow _ hrm
    have hvh : RdH J vh it.heads := by
      obtain ⟨bM2, oM2, e2, hm2, hnd2, hrows2, hnx2⟩ := hd
      exact (hrows2 _ hrm).2.1
    have hrl : (recsA (absT rows) next)[k + 1]? = some (recB it) := by
      unfold recsA
      rw [List.getElem?_cons_succ, List.getElem?_map, absT_keysUp, hkk]
      show some (recB (itA (absT rows) kk)) = _
      unfold itA
      rw [absT_get, hit]
      rfl
    have hzz : (keysUp rows).length ≤ 1000000 := by rw [keysUp_len]; exact hz
    have hbl : ((recsA (absT rows) next).take (k + 1)).length ≤ 1000001 := by rw [List.length_take]; omega
    refine CW.skip ?_
    refine AQ.next ?_
    refine CW.seq ?_
    refine CW.block ?_
    refine CW.seq ?_
    refine CW.region ?_
    refine RW.op1 rfl (RdL.indexAddr Try.underlying22 ti3 (by decide) rfl rfl hv25 (by omega)) ?_
    refine RW.op1 rfl (runs_load1 sc3 rfl (hst.cell_imm (RdI.at hv25 (by omega) (by omega)))) ?_
    rw [hki]
    refine RW.op1 rfl (runs_assign rfl) ?_
    refine RW.done ?_
    refine AQ.next ?_
    refine CW.seq ?_
    refine CW.region ?_
    refine RW.op1 rfl (runs_move rfl) ?_
    refine RW.op1 rfl (runs_nilCheck rfl) ?_
    first
      | refine RW.op1 rfl (runs_fieldAddr0 rfl Try.underlying67 rfl ti65 (by decide)) ?_
      | refine RW.op1 rfl (runs_fieldAddr rfl Try.underlying67 rfl ti65 (by decide)) ?_
    first
      | refine RW.op1 rfl (runs_load1 sc65 rfl (hst.cell_own (k := 0) rfl rfl)) ?_
      | refine RW.op1 rfl (runs_load1 sc65 rfl (hst.cell_own (k := 1) rfl rfl)) ?_
      | refine RW.op1 rfl (runs_load1 sc65 rfl (hst.cell_own (k := 2) rfl rfl)) ?_
    refine RW.op1 rfl (runs_move rfl) ?_
    refine RW.op1 rfl (runs_lookup (i := 1) (keyI Try.underlying3) Try.underlying65 ti36 rfl rfl hst rfl hm) ?_
    rw [mget_t, hit]
    refine RW.call rfl call20 rfl rfl (putrec_spec hst hvh hiok) ?_
    rintro e w ⟨J38, v38, hJ38, rfl, hstn, hv38⟩
    clear hst
    have hst := hstn
    clear hstn
    rw [hien] at hv38 ⊢
    rw [if_pos rfl] at hv38
    replace hgr := hgr.mono hJ38
    replace hd := hd.mono hJ38
    replace hv25 := hv25.mono hJ38
    replace hle := hle.trans hJ38
    refine ⟨_, rfl, ?_⟩
    refine RW.op1 rfl (runs_move rfl) ?_
    refine RW.op1 rfl (runs_extract rfl rfl) ?_
    refine RW.op1 rfl (runs_extract rfl rfl) ?_
    refine RW.op1 rfl (runs_assign rfl) ?_
    refine RW.op1 rfl (runs_assign rfl) ?_
    refine RW.done ?_
    refine AQ.next ?_
    refine CW.seq ?_
    refine CW.seq ?_
    refine CW.region ?_
    refine RW.op1 rfl (runs_move rfl) ?_
    refine RW.op1 rfl (runs_neI rfl rfl) ?_
    refine RW.done ?_
    refine AQ.next ?_
    refine CW.cond rfl (fun hc => absurd hc (by decide)) (fun hc => ?_)
    refine CW.skip ?_
    refine AQ.next ?_
    refine CW.region ?_
    refine RW.op1 rfl (runs_move rfl) ?_
    refine RW.op1 rfl (runs_move rfl) ?_
    refine RW.opE rfl (runs_lit1R (xs := [v38]) Try.underlying57 ti43 (by decide) rfl rfl rfl (by intro u hu; rw [List.mem_singleton.1 hu]; exact RdL.one hv38) hst) ?_
    rintro u6 w ⟨I6, hI6, hstn, h6⟩
    clear hst
    have hst := hstn
    clear hstn
    replace hd := hd.mono hI6
    replace hv25 := hv25.mono hI6
    replace hv38 := hv38.mono hI6
    replace hle := hle.trans hI6
    replace hgr := hgr.mono hI6
    have hD : RdL _ 1 u6 1 [v38] := h6
    replace hst := hst.perm (permAB (X := [(bT, Obj.cells #[Value.map (some bM), Value.int IntKind.i64 next] 67), (bM, oM)]) (Y := Lo))
    refine RW.opE rfl (runs_appendRow Try.underlying57 ti43 rfl rfl rfl hst hgr hD hv38 (by omega) (by unfold maxLen; omega)) ?_
    rintro uN w ⟨LvN, hstn, hgN⟩
    clear hst
    have hst := hstn
    clear hstn
    replace hst := hst.perm (permAB (X := LvN) (Y := [(bT, Obj.cells #[Value.map (some bM), Value.int IntKind.i64 next] 67), (bM, oM)]))
    refine RW.op1 rfl (runs_assign rfl) ?_
    refine RW.done ?_
    refine AQ.block_normal ?_
    refine AQ.next ?_
    refine CW.region ?_
    refine RW.op1 rfl (runs_add rfl rfl (by omega)) ?_
    refine RW.op1 rfl (runs_move rfl) ?_
    refine RW.done ?_
    exact AQ.again (x := (k, J, vo, Lo)) (k + 1, _, uN, LvN) ⟨hle, hd, hv25, hst, by dsimp only; rw [take_one hrl]; exact hgN, by dsimp only; omega⟩ ⟨rfl, rfl, rfl, rfl, rfl, trivial⟩ (by dsimp only; omega)
  · have hcb28 := hc28
    try simp only [decide_eq_true_eq, decide_eq_false_iff_not] at hc28
    have hke : k = (keysUp rows).length := by omega
    refine CW.exit ?_
    refine AQ.past_exit ?_
    refine AQ.past_exit ?_
    refine AQ.block_hit ?_
    refine AQ.next ?_
    refine CW.seq ?_
    refine CW.region ?_
    refine RW.op1 rfl (runs_move rfl) ?_
    refine RW.op1 rfl (runs_assign rfl) ?_
    refine RW.op1 rfl (runs_assign rfl) ?_
    refine RW.done ?_
    refine AQ.next ?_
    refine CW.ret ?_
    refine AQ.ret2 rfl rfl rfl ?_
    have hfull : (recsA (absT rows) next).take (k + 1) = recsA (absT rows) next := List.take_of_length_le (by rw [recsA_len]; unfold absT; rw [List.length_map, hke, keysUp_len]; omega)
    rw [hfull] at hgr
    exact ⟨_, _, _, hle, rfl, hst.perm (permAB (X := [(bT, Obj.cells #[Value.map (some bM), Value.int IntKind.i64 next] 67), (bM, oM)]) (Y := Lo)), hgr⟩
theorem records_spec {w0 w : World} {I : Imm} {L : Own} {rows : List TRow} {next : Int} {bT : Nat} {Lt : Own} (hd : TbO I rows next bT Lt) (hst : St w0 w I (Lt ++ L)) (hz : rows.length ≤ 1000000) (hrow : ∀ r ∈ rows, ItOk r.2.1 ∧ encOk (itAV r.2.1) = true) :
    Calls Try.prog 23 #[.pointer (some ⟨bT, 0, none⟩)] w fun e w' => ∃ I' v' vs, I.le I' ∧ e = .returned (.tuple #[v', .int .i64 0]) ∧ St w0 w' I' (Lt ++ L) ∧ RdR I' v' vs (recsA (absT rows) next) := by
  refine (records_own hd hst hz hrow).mono ?_
  rintro e w' ⟨I', v', Lo, h1, rfl, h2, h3⟩
  obtain ⟨J9, vs, hJ9, hst9, hr9⟩ := h3.freeze h2
  exact ⟨J9, v', vs, h1.trans hJ9, rfl, hst9, hr9⟩
end Go.Proofs.YtlmmpcdjkpibcaaX
namespace Go.Proofs.YtlmmpcdjkpibcaaX
set_option linter.unusedVariables false
set_option linter.unusedSimpArgs false
open Go Go.RowKit
variable {w0 w : World} {I : Imm} {L : Own} {P : Program} {l : Env} {ty : TypeId}
theorem extract_list {s : ByteArray} {i j : Nat} : (s.extract i j).toList = (s.toList.drop i).take (j - i) := by
  rw [ByteArray.toList_eq, ByteArray.toList_eq, ByteArray.data_extract, Array.toList_extract]
def goL (l : List UInt8) : Bool := decide (0 < l.length) && decide ((l.getD 0 0).toNat ≤ 32)
def goR (l : List UInt8) : Bool := decide (0 < l.length) && decide ((l.getD (l.length - 1) 0).toNat ≤ 32)
theorem trimL_go {l : List UInt8} (h : goL l = true) : trimL (l.drop 1) = trimL l := by
  unfold goL at h
  match l, h with
  | [], h => simp at h
  | c :: r, h =>
    have hc : c.toNat ≤ 32 := by simpa using h
    show _ = trimL (c :: r)
    unfold trimL
    rw [List.dropWhile_cons, if_pos (by simpa using hc)]
    rfl
theorem trimL_stop {l : List UInt8} (h : goL l = false) : trimL l = l := by
  unfold goL at h
  match l, h with
  | [], _ => rfl
  | c :: r, h =>
    have hc : ¬ c.toNat ≤ 32 := by simpa using h
    unfold trimL
    rw [List.dropWhile_cons, if_neg (by simpa using hc)]
theorem trimR_go {l : List UInt8} (h : goR l = true) : trimR (l.take (l.length - 1)).length (l.take (l.length - 1)) = trimR l.length l := by
  unfold goR at h
  simp only [Bool.and_eq_true, decide_eq_true_eq] at h
  have e : (l.take (l.length - 1)).length = l.length - 1 := by rw [List.length_take]; omega
  rw [e]
  obtain ⟨n, hn⟩ : ∃ n, l.length = n + 1 := ⟨l.length - 1, by omega⟩
  rw [hn]
  show _ = if _ then _ else _
  rw [if_pos h, hn, Nat.add_sub_cancel]
theorem trimR_stop {n : Nat} {l : List UInt8} (h : goR l = false) : trimR n l = l := by
  unfold goR at h
  match n with
  | 0 => rfl
  | n + 1 =>
    show (if _ then _ else _) = _
    rw [if_neg]
    intro h2
    rw [decide_eq_true h2.1, decide_eq_true h2.2] at h
    cases h
theorem trimR_le : ∀ (n : Nat) (l : List UInt8), l.length ≤ n → trimR n l = trimR l.length l
  | 0, l, h => by
    have : l.length = 0 := by omega
    rw [this]
  | n + 1, l, h => by
    cases hg : goR l with
    | false => rw [trimR_stop hg, trimR_stop hg]
    | true =>
      rw [← trimR_go hg]
      have h2 := hg
      unfold goR at h2
      simp only [Bool.and_eq_true, decide_eq_true_eq] at h2
      show (if _ then _ else _) = _
      rw [if_pos h2, trimR_le n _ (by rw [List.length_take]; omega)]
theorem trimB_of {t s : List UInt8} (h : goL t = false) (h2 : trimL t = trimL s) (hl : t.length ≤ s.length) : trimR t.length t = trimB s := by
  rw [trimL_stop h] at h2
  unfold trimB
  rw [← h2, trimR_le s.length t hl]
theorem safe_fin : ∀ r : Nat, r < 127 → safeR r = (decide (33 ≤ r) && (decide (r ≠ 34) && (decide (r ≠ 96) && (decide (r ≠ 35) && (decide (r ≠ 60) && (decide (r ≠ 62) && (decide (r ≠ 63) && (decide (r ≠ 123) && decide (r ≠ 125))))))))) := by decide +kernel
theorem bad_1 {r : Nat} (h : (r : Int) < 33 ∨ (r : Int) > 126 ∨ (r : Int) = 34 ∨ (r : Int) = 96 ∨ (r : Int) = 35 ∨ (r : Int) = 60 ∨ (r : Int) = 62 ∨ (r : Int) = 63 ∨ (r : Int) = 123) : true = !safeR r := by
  by_cases h1 : r < 127
  · rw [safe_fin r h1]
    rcases h with h | h | h | h | h | h | h | h | h
    · rw [decide_eq_false (show ¬ 33 ≤ r by omega)]; rfl
    · omega
    all_goals
      obtain rfl : r = _ := Int.ofNat_inj.1 h
      decide
  · rw [← safe_2 (by omega)]
    rfl
theorem bad_2 {r : Nat} (h0 : ¬ (r : Int) < 33) (h1 : ¬ (r : Int) > 126) (h2 : ¬ (r : Int) = 34) (h3 : ¬ (r : Int) = 96) (h4 : ¬ (r : Int) = 35) (h5 : ¬ (r : Int) = 60) (h6 : ¬ (r : Int) = 62) (h7 : ¬ (r : Int) = 63) (h8 : ¬ (r : Int) = 123) : decide ((r : Int) = 125) = !safeR r := by
  rw [safe_fin r (by omega), decide_eq_true (show 33 ≤ r by omega), decide_eq_true (show r ≠ 34 by omega), decide_eq_true (show r ≠ 96 by omega), decide_eq_true (show r ≠ 35 by omega), decide_eq_true (show r ≠ 60 by omega), decide_eq_true (show r ≠ 62 by omega), decide_eq_true (show r ≠ 63 by omega), decide_eq_true (show r ≠ 123 by omega)]
  simp only [Bool.true_and]
  by_cases h9 : r = 125
  · rw [decide_eq_true (show (r : Int) = 125 by omega), decide_eq_false (show ¬ r ≠ 125 by omega)]; rfl
  · rw [decide_eq_false (show ¬ (r : Int) = 125 by omega), decide_eq_true (show r ≠ 125 by omega)]; rfl
theorem safe_small {r : Nat} (h : safeR r = true) : r ≤ 126 := by
  unfold safeR at h
  simp at h
  omega
theorem hex_cut : ∀ n : Nat, n < 16 → hexS.extract n (n + 1) = strOf [hexD n] := by decide +kernel
theorem runs_hexSl {t : TypeId} {x y y' : Operand} {k k' : IntKind} {n : Nat} {lo hi : Int} (ht : P.underlying t = some .string) (hx : ev l x = some (.string hexS)) (hy : ev l y = some (.int k lo)) (hy' : ev l y' = some (.int k' hi)) (hlo : lo = (n : Int)) (hhi : hi = (n : Int) + 1) (hn : n < 16) :
    Runs P (.slice t x (some y) (some y') none) ty l w (.value (.string (strOf [hexD n]))) w := by
  subst hlo hhi
  have h := runs_sliceS_lh (w := w) (ty := ty) ht hx hy hy' (by show 0 ≤ (n : Int) ∧ (n : Int) ≤ n + 1 ∧ (n : Int) + 1 ≤ ((16 : Nat) : Int); omega)
  rw [Int.toNat_natCast, show ((n : Int) + 1).toNat = n + 1 by omega, hex_cut n hn] at h
  exact h
theorem strOf_app (a b : List UInt8) : strOf a ++ strOf b = strOf (a ++ b) := by
  apply ByteArray.ext
  simp [strOf]
theorem strOf_of (s : ByteArray) : strOf s.toList = s := by rw [ByteArray.toList_eq]; rfl
theorem enc_str (r : Int) : Utf8.encode r = strOf (encL r) := (strOf_of _).symm
end Go.Proofs.YtlmmpcdjkpibcaaX
namespace Go.Proofs.YtlmmpcdjkpibcaaX
set_option linter.unusedVariables false
set_option linter.unusedSimpArgs false
open Go Go.RowKit
theorem strOfE (s : ByteArray) : strOf s.toList = s := by rw [ByteArray.toList_eq]; rfl
theorem extractE (s : ByteArray) (i j : Nat) : s.extract i j = strOf ((s.toList.drop i).take (j - i)) := by rw [← extract_list, strOfE]
theorem strOfZ (l : List UInt8) : (strOf l).size = l.length := by rw [← size_toList, strOf_toList]
theorem emptyL : (ByteArray.mk #[]).toList = [] := by rw [ByteArray.toList_eq]
theorem takeE_more {α : Type} {p : α → Prop} {xs : List α} {k : Nat} (h : ∀ x ∈ xs.take k, p x) (hk : k < xs.length) (hp : p xs[k]) : ∀ x ∈ xs.take (k + 1), p x := by
  intro x hx
  rw [List.take_add_one, List.getElem?_eq_getElem hk] at hx
  rcases List.mem_append.1 hx with hx | hx
  · exact h x hx
  · simp at hx
    subst hx
    exact hp
theorem get_getD {l : List UInt8} {k : Nat} (h : k < l.length) : l.getD k 0 = l[k] := by
  rw [List.getD_eq_getElem?_getD, List.getElem?_eq_getElem h]
  rfl
theorem strOf_append (a b : List UInt8) : strOf a ++ strOf b = strOf (a ++ b) := by
  apply ByteArray.ext
  rw [ByteArray.data_append]
  simp [strOf]
def stopK (st l : List UInt8) : Nat := l.findIdx (fun c => st.contains c)
def untilL (st l : List UInt8) : List UInt8 × List UInt8 := (l.take (stopK st l), l.drop (stopK st l))
theorem untilL_no {st l : List UInt8} (h : ∀ x ∈ l, st.contains x = false) : untilL st l = (l, []) := by
  have hk : stopK st l = l.length := by
    unfold stopK
    rw [List.findIdx_eq_length]
    intro x hx
    rw [h x hx]
  unfold untilL
  rw [hk, List.take_length, List.drop_length]
theorem stopK_at {st a b : List UInt8} {c : UInt8} (h : ∀ x ∈ a, st.contains x = false) (hc : st.contains c = true) : stopK st (a ++ c :: b) = a.length := by
  unfold stopK
  induction a with
  | nil =>
    rw [List.nil_append, List.findIdx_cons, hc]
    rfl
  | cons x r ih =>
    rw [List.cons_append, List.findIdx_cons, h x (by simp), cond_false, ih (fun y hy => h y (List.mem_cons_of_mem _ hy))]
    rfl
theorem untilL_at {st a b : List UInt8} {c : UInt8} (h : ∀ x ∈ a, st.contains x = false) (hc : st.contains c = true) : untilL st (a ++ c :: b) = (a, c :: b) := by
  unfold untilL
  rw [stopK_at h hc, List.take_left, List.drop_left]
theorem untilL_len (st l : List UInt8) : (untilL st l).1.length ≤ l.length ∧ (untilL st l).2.length ≤ l.length := by
  unfold untilL
  exact ⟨by rw [List.length_take]; omega, by rw [List.length_drop]; omega⟩
theorem untilL_get {st l : List UInt8} {k : Nat} (hk : k < l.length) (h : ∀ x ∈ l.take k, st.contains x = false) (hc : st.contains l[k] = true) : untilL st l = (l.take k, l.drop k) := by
  have e : l = l.take k ++ l[k] :: l.drop (k + 1) := by rw [← List.drop_eq_getElem_cons hk, List.take_append_drop]
  have h2 := untilL_at (b := l.drop (k + 1)) h hc
  rw [← e] at h2
  rw [h2, ← List.drop_eq_getElem_cons hk]
end Go.Proofs.YtlmmpcdjkpibcaaX
