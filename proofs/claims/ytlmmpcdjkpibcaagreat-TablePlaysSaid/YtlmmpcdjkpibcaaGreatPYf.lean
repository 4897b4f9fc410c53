/- Parts of a proof, joined: walks through the program's functions and their laws, in the order in which they need each other. -/
import Derived.Test.YtlmmpcdjkpibcaaGreatPYe
import Derived.Test.YtlmmpcdjkpibcaaGreatPYb
namespace Go.Proofs.YtlmmpcdjkpibcaaGreatX
set_option linter.unusedVariables false
set_option linter.unusedSimpArgs false
open Go Go.RowKit
def absT (rows : List TRow) : List (Int × It) := rows.map fun r => (r.1, r.2.1)
theorem absT_keys (rows : List TRow) : (absT rows).map Prod.fst = rows.map Prod.fst := by unfold absT; rw [List.map_map]; rfl
theorem absT_keysUp (rows : List TRow) : keysUp (absT rows) = keysUp rows := by unfold keysUp; rw [absT_keys]
theorem absT_get (rows : List TRow) (k : Int) : pget (absT rows) k = (pget rows k).map Prod.fst := pget_map Prod.fst rows k
theorem absT_put (rows : List TRow) (k : Int) (p : It × Value) : absT (pput rows k p) = pput (absT rows) k p.1 := pput_map Prod.fst rows k p
theorem absT_del (rows : List TRow) (k : Int) : absT (pdel rows k) = pdel (absT rows) k := pdel_map Prod.fst rows k
def itA (A : List (Int × It)) (k : Int) : It := (pget A k).getD zeroIt
def recsA (A : List (Int × It)) (next : Int) : List (List UInt8) := encA [.txt nextS, .num next] :: (keysUp A).map fun k => recB (itA A k)
theorem ck_join (b : List UInt8) : ∀ m, m ≤ ckCnt b.length → (List.range m).flatMap (ckL b) = b.take (200 * m)
  | 0, _ => by simp
  | m + 1, h => by
    have h1 : 200 * m < b.length := by unfold ckCnt at h; omega
    rw [List.range_succ, List.flatMap_append, ck_join b m (by omega), List.flatMap_cons, List.flatMap_nil, List.append_nil]; unfold ckL ckHi; rw [show 200 * (m + 1) = 200 * m + 200 by omega, List.take_add]
    congr 1
    by_cases h2 : 200 * m + 200 ≤ b.length
    · rw [Nat.min_eq_left h2]; congr 1; omega
    · rw [Nat.min_eq_right (by omega), List.take_of_length_le (by rw [List.length_drop]; omega), List.take_of_length_le (by rw [List.length_drop]; omega)]
theorem allB_rec (b : List UInt8) : allB (recAV b (ckCnt b.length)) = b := by
  unfold allB recAV; rw [List.drop_succ_cons, List.drop_zero, List.flatMap_map]
  have e : (List.range (ckCnt b.length)).flatMap (fun k => txtL (.txt (strOf (ckL b k)))) = (List.range (ckCnt b.length)).flatMap (ckL b) := by
    congr 1
    funext k
    exact strOf_toList _
  rw [e, ck_join b _ (Nat.le_refl _)]; exact List.take_of_length_le (by unfold ckCnt; omega)
theorem putOk_rec {it : It} (hok : ItOk it) (ho : encOk (itAV it) = true) : putOk (recAV (encA (itAV it)) (ckCnt (encA (itAV it)).length)) (recB it) = some it := by
  unfold putOk; rw [allB_rec, decIt_self hok ho]; exact if_pos rfl
theorem decA_rec (it : It) : decA (recB it) = some (recAV (encA (itAV it)) (ckCnt (encA (itAV it)).length)) := by
  unfold recB; exact decA_encA (Nat.le_refl 255) (recAV_good _ _)
theorem Ap_put {it : It} (hok : ItOk it) (ho : encOk (itAV it) = true) {rows rows' : List TRow} {next next' err : Int} (ha : Ap (recB it) rows next err rows' next') : err = 0 ∧ (∃ v, rows' = pput rows it.id (it, v)) ∧ next' = nextR next it.id := by
  have hw : wordOf (recAV (encA (itAV it)) (ckCnt (encA (itAV it)).length)) = putL := wordOf_txt putL _; unfold Ap at ha; rw [decA_rec, Option.getD_some, if_pos hw, putOk_rec hok ho] at ha; exact ha
theorem recB_len {it : It} (ho : encOk (itAV it) = true) : (recB it).length ≤ (ckCnt ((25 + it.heads.length * 2) * 257) + 1) * 257 := by
  have h1 := encA_le ho; rw [itAV_len] at h1; have h2 := encA_le (good_encOk (recAV_good (encA (itAV it)) (ckCnt (encA (itAV it)).length)) (Nat.le_refl 255)); rw [recAV_len] at h2
  have h3 : ckCnt (encA (itAV it)).length ≤ ckCnt ((25 + it.heads.length * 2) * 257) := by unfold ckCnt; omega
  unfold recB; refine Nat.le_trans h2 (Nat.mul_le_mul_right _ (by omega))
theorem pput_new {α : Type} {A : List (Int × α)} {k : Int} {v : α} (h : k ∉ A.map Prod.fst) : pput A k v = A ++ [(k, v)] := by
  induction A with
  | nil => rfl
  | cons p t ih =>
    obtain ⟨a, u⟩ := p; rw [List.map_cons, List.mem_cons, not_or] at h; unfold pput; rw [if_neg h.1, ih h.2]
    rfl
def mkT (A : List (Int × It)) (j : Nat) : List (Int × It) := ((keysUp A).take j).map fun k => (k, itA A k)
theorem mkT_step {A : List (Int × It)} (hn : (A.map Prod.fst).Nodup) (hid : ∀ r ∈ A, r.2.id = r.1) {j : Nat} {k : Int} (hk : (keysUp A)[j]? = some k) : (itA A k).id = k ∧ pput (mkT A j) k (itA A k) = mkT A (j + 1) := by
  have hkm : k ∈ A.map Prod.fst := (keysUp_mem A k).1 (List.mem_of_getElem? hk)
  obtain ⟨it, hit⟩ : ∃ it, pget A k = some it := by
    cases h : pget A k with
    | none => exact absurd hkm (pget_none.1 h)
    | some it => exact ⟨it, rfl⟩
  have h1 : itA A k = it := by unfold itA; rw [hit]; rfl
  refine ⟨by rw [h1]; exact hid _ (pget_mem hit), ?_⟩; unfold mkT; rw [List.take_add_one, hk, List.map_append]; refine pput_new ?_; rw [List.map_map]; intro hm
  have hm2 : k ∈ (keysUp A).take j := by
    obtain ⟨q, hq, e⟩ := List.mem_map.1 hm; have e2 : q = k := e
    rw [← e2]; exact hq
  have hlt := keysUp_lt hn; obtain ⟨i, hi, e⟩ := List.getElem_of_mem hm2; rw [List.length_take] at hi; rw [List.getElem_take] at e; obtain ⟨hj, ej⟩ := List.getElem?_eq_some_iff.1 hk; have := List.pairwise_iff_getElem.1 hlt i j (by omega) hj (by omega); omega
theorem mkT_keys (A : List (Int × It)) : (mkT A (keysUp A).length).map Prod.fst = keysUp A := by
  unfold mkT; rw [List.take_of_length_le (Nat.le_refl _), List.map_map]; exact List.map_id'' (fun _ => rfl) _
theorem mkT_keysUp (A : List (Int × It)) : keysUp (mkT A (keysUp A).length) = keysUp A := by
  have h : keysUp (mkT A (keysUp A).length) = (keysUp A).mergeSort fun x y => decide (x ≤ y) := by
    show ((mkT A (keysUp A).length).map Prod.fst).mergeSort _ = _
    rw [mkT_keys]
  rw [h]; refine List.mergeSort_of_pairwise ?_; unfold keysUp; exact List.pairwise_mergeSort (fun a b c h1 h2 => by simp only [decide_eq_true_eq] at *; omega) (fun a b => by simp only [Bool.or_eq_true, decide_eq_true_eq]; omega) _
theorem mkT_get {A : List (Int × It)} (hn : (A.map Prod.fst).Nodup) (k : Int) : pget (mkT A (keysUp A).length) k = pget A k := by
  by_cases hk : k ∈ A.map Prod.fst
  · obtain ⟨it, hit⟩ : ∃ it, pget A k = some it := by
      cases h : pget A k with
      | none => exact absurd hk (pget_none.1 h)
      | some it => exact ⟨it, rfl⟩
    rw [hit]; refine pget_some (by rw [mkT_keys]; exact (List.mergeSort_perm _ _).nodup_iff.2 hn) ?_; unfold mkT; rw [List.take_of_length_le (Nat.le_refl _)]; refine List.mem_map.2 ⟨k, (keysUp_mem A k).2 hk, ?_⟩; unfold itA; rw [hit]
    rfl
  · rw [pget_none.2 hk]; refine pget_none.2 ?_; rw [mkT_keys]
    exact fun h => hk ((keysUp_mem A k).1 h)
theorem recsA_mk {A : List (Int × It)} (hn : (A.map Prod.fst).Nodup) (next : Int) : recsA (mkT A (keysUp A).length) next = recsA A next := by
  unfold recsA; rw [mkT_keysUp]
  congr 1
  refine List.map_congr_left fun k _ => ?_
  unfold itA; rw [mkT_get hn]
theorem recsA_len (A : List (Int × It)) (next : Int) : (recsA A next).length = A.length + 1 := by
  unfold recsA; rw [List.length_cons, List.length_map, keysUp_len]
theorem recsA_succ {A : List (Int × It)} {next : Int} {j : Nat} {b : List UInt8} (h : (recsA A next)[j + 1]? = some b) : ∃ k, (keysUp A)[j]? = some k ∧ b = recB (itA A k) := by
  unfold recsA at h; rw [List.getElem?_cons_succ, List.getElem?_map] at h
  cases hk : (keysUp A)[j]? with
  | none => rw [hk] at h; cases h
  | some k => rw [hk] at h; exact ⟨k, rfl, (Option.some.inj h).symm⟩
structure TbI (A : List (Int × It)) (next : Int) : Prop where
  nd : (A.map Prod.fst).Nodup
  id : ∀ r ∈ A, r.2.id = r.1
  ok : ∀ r ∈ A, ItOk r.2 ∧ encOk (itAV r.2) = true
  lt : ∀ r ∈ A, 1 ≤ r.1 ∧ r.1 < next
  nx : 1 ≤ next
  nz : next ≤ 1000000
  hl : ∀ r ∈ A, r.2.heads.length ≤ 1000
theorem TbI.nil : TbI [] 1 := ⟨by simp, by simp, by simp, by simp, by decide, by decide, by simp⟩
theorem TbI.itA_ok {A : List (Int × It)} {next : Int} (h : TbI A next) {k : Int} (hk : k ∈ keysUp A) : ItOk (itA A k) ∧ encOk (itAV (itA A k)) = true ∧ 1 ≤ k ∧ k < next ∧ (itA A k).heads.length ≤ 1000 := by
  have hk2 := (keysUp_mem A k).1 hk
  obtain ⟨it, hit⟩ : ∃ it, pget A k = some it := by
    cases h2 : pget A k with
    | none => exact absurd hk2 (pget_none.1 h2)
    | some it => exact ⟨it, rfl⟩
  have h1 : itA A k = it := by unfold itA; rw [hit]; rfl
  rw [h1]; have hm := pget_mem hit; exact ⟨(h.ok _ hm).1, (h.ok _ hm).2, (h.lt _ hm).1, (h.lt _ hm).2, h.hl _ hm⟩
theorem TbI.put {A : List (Int × It)} {next : Int} (h : TbI A next) {it : It} (hok : ItOk it) (ho : encOk (itAV it) = true) (h1 : 1 ≤ it.id) (h2 : it.id < 999999) (h3 : it.heads.length ≤ 1000) : TbI (pput A it.id it) (nextR next it.id) ∧ nextR next it.id = (if it.id + 1 > next then it.id + 1 else next) := by
  have e : nextR next it.id = (if it.id + 1 > next then it.id + 1 else next) := nextR_of (by unfold i64ok; omega); have hx := h.nx; have hz := h.nz; refine ⟨⟨pput_nodup h.nd _ _, ?_, ?_, ?_, ?_, ?_, ?_⟩, e⟩
  · intro r hr
    rcases pput_mem hr with rfl | hr
    · rfl
    · exact h.id r hr
  · intro r hr
    rcases pput_mem hr with rfl | hr
    · exact ⟨hok, ho⟩
    · exact h.ok r hr
  · intro r hr; rw [e]
    rcases pput_mem hr with rfl | hr
    · dsimp only; split <;> omega
    · have := h.lt r hr; split <;> omega
  · rw [e]; split <;> omega
  · rw [e]; split <;> omega
  · intro r hr
    rcases pput_mem hr with rfl | hr
    · exact h3
    · exact h.hl r hr
theorem TbI.del {A : List (Int × It)} {next : Int} (h : TbI A next) (k : Int) : TbI (pdel A k) next :=
  ⟨pdel_nodup h.nd _, fun r hr => h.id r (pdel_mem hr), fun r hr => h.ok r (pdel_mem hr), fun r hr => h.lt r (pdel_mem hr), h.nx, h.nz, fun r hr => h.hl r (pdel_mem hr)⟩
theorem remake_step {A : List (Int × It)} {next : Int} (h : TbI A next) {j : Nat} {b : List UInt8} (hb : (recsA A next)[j]? = some b) {rows rows' : List TRow} {nx nx' err : Int} (hj : (j = 0 ∧ rows = [] ∧ nx = 1) ∨ (1 ≤ j ∧ absT rows = mkT A (j - 1) ∧ nx = next)) (ha : Ap b rows nx err rows' nx') : err = 0 ∧ absT rows' = mkT A j ∧ nx' = next := by
  have hx := h.nx; have hz := h.nz
  rcases hj with ⟨rfl, rfl, rfl⟩ | ⟨h1, h2, rfl⟩
  · have hb2 : encA [.txt nextS, .num next] = b := Option.some.inj hb; subst hb2; obtain ⟨e1, e2, e3⟩ := Ap_next (decA_encA (Nat.le_refl 255) (two_good (by decide) (by unfold i64ok; omega))) ha; refine ⟨e1, by rw [e2]; rfl, ?_⟩
    rw [e3]; split <;> omega
  · obtain ⟨j, rfl⟩ : ∃ i, j = i + 1 := ⟨j - 1, by omega⟩; obtain ⟨k, hk, rfl⟩ := recsA_succ hb; obtain ⟨i1, i2, i3, i4, i5⟩ := h.itA_ok (List.mem_of_getElem? hk); obtain ⟨e1, ⟨v, e2⟩, e3⟩ := Ap_put i1 i2 ha; obtain ⟨m1, m2⟩ := mkT_step h.nd h.id hk; refine ⟨e1, ?_, ?_⟩
    · rw [e2, absT_put, h2, m1, Nat.add_sub_cancel]; exact m2
    · rw [e3, m1, nextR_of (by unfold i64ok; omega)]
      split <;> omega
theorem recsA_bound {A : List (Int × It)} {next : Int} (h : TbI A next) {j : Nat} {b : List UInt8} (hb : (recsA A next)[j]? = some b) : b.length ≤ 1000000 := by
  have hx := h.nx; have hz := h.nz
  cases j with
  | zero =>
    have hb2 : encA [.txt nextS, .num next] = b := Option.some.inj hb; rw [← hb2]; have := encA_le (two_ok (t := nextS) (by decide) (n := next) (by unfold i64ok; omega)); have e : ([AV.txt nextS, AV.num next] : List AV).length = 2 := rfl; rw [e] at this; omega
  | succ j =>
    obtain ⟨k, hk, rfl⟩ := recsA_succ hb; obtain ⟨i1, i2, i3, i4, i5⟩ := h.itA_ok (List.mem_of_getElem? hk); refine Nat.le_trans (recB_len i2) ?_; unfold ckCnt; omega
theorem TbI.rows {rows : List TRow} {next : Int} (h : TbI (absT rows) next) : ∀ r ∈ rows, ItOk r.2.1 ∧ encOk (itAV r.2.1) = true := fun r hr => h.ok (r.1, r.2.1) (List.mem_map.2 ⟨r, hr, rfl⟩)
theorem remade {A : List (Int × It)} {next : Int} (h : TbI A next) {rows : List TRow} (hr : absT rows = mkT A (keysUp A).length) : TbI (absT rows) next ∧ recsA (absT rows) next = recsA A next ∧ keysUp rows = keysUp A ∧ rows.length = A.length ∧ ∀ k, (pget rows k).map Prod.fst = pget A k := by
  refine ⟨?_, by rw [hr, recsA_mk h.nd], by rw [← absT_keysUp, hr, mkT_keysUp], ?_, fun k => by rw [← absT_get, hr, mkT_get h.nd]⟩
  · rw [hr]
    have hm : ∀ r ∈ mkT A (keysUp A).length, ∃ k ∈ keysUp A, r = (k, itA A k) := by
      intro r hr2; unfold mkT at hr2; rw [List.take_of_length_le (Nat.le_refl _)] at hr2; obtain ⟨k, hk, e⟩ := List.mem_map.1 hr2; exact ⟨k, hk, e.symm⟩
    refine ⟨by rw [mkT_keys]; exact (List.mergeSort_perm _ _).nodup_iff.2 h.nd, ?_, ?_, ?_, h.nx, h.nz, ?_⟩
    · intro r hr2; obtain ⟨k, hk, rfl⟩ := hm r hr2; obtain ⟨i, hi⟩ := List.getElem?_of_mem hk; exact (mkT_step h.nd h.id hi).1
    · intro r hr2; obtain ⟨k, hk, rfl⟩ := hm r hr2; exact ⟨(h.itA_ok hk).1, (h.itA_ok hk).2.1⟩
    · intro r hr2; obtain ⟨k, hk, rfl⟩ := hm r hr2; exact ⟨(h.itA_ok hk).2.2.1, (h.itA_ok hk).2.2.2.1⟩
    · intro r hr2; obtain ⟨k, hk, rfl⟩ := hm r hr2; exact (h.itA_ok hk).2.2.2.2
  · have e1 : (absT rows).length = rows.length := by unfold absT; rw [List.length_map]
    rw [← e1, hr]; unfold mkT; rw [List.length_map, List.take_of_length_le (Nat.le_refl _), keysUp_len]
theorem pdel_len {α : Type} (rows : List (Int × α)) (k : Int) : (pdel rows k).length ≤ rows.length := by
  have h := congrArg List.length (pdel_keys rows k); rw [List.length_map] at h; rw [h]; have h2 := List.length_erase_le (a := k) (l := rows.map Prod.fst); rw [List.length_map] at h2; exact h2
theorem pput_len {α : Type} (rows : List (Int × α)) (k : Int) (v : α) : (pput rows k v).length ≤ rows.length + 1 := by
  have h := congrArg List.length (pput_keys rows k v); rw [List.length_map] at h; rw [h]
  split
  · rw [List.length_map]; omega
  · rw [List.length_append, List.length_map]; simp
end Go.Proofs.YtlmmpcdjkpibcaaGreatX
namespace Go.Proofs.YtlmmpcdjkpibcaaGreatX
set_option linter.unusedVariables false
set_option linter.unusedSimpArgs false
open Go Go.RowKit
abbrev irow2 (it : It) (vh : Value) : List Value := [.int .i64 it.id, .int .i64 it.kind, .int .i64 it.group, .string it.name, .string it.method, .string it.url, vh, .string it.body, .int .i64 it.mode, .int .i64 it.creds, .string it.page, .string it.csp, .int .i64 it.refer, .string it.nurl, .string it.nmethod, .string it.nbody, .int .i64 it.hops, .int .i64 it.tries, .int .i64 it.til, .bool it.tainted, .string it.got, .string it.tag, .int .i64 it.state, .int .i64 it.code, .bool it.acked]
def irow (p : It × Value) : List Value := irow2 p.1 p.2
theorem irow_len (p : It × Value) : (irow p).length = 25 := rfl
theorem irow_at {rows : List (It × Value)} {k : Nat} {it : It} {vh : Value} (hr : rows[k]? = some (it, vh)) : ∀ (j : Nat) (u : Value), (irow2 it vh)[j]? = some u → (rows.flatMap irow)[(k : Int).toNat * 25 + j]? = some u := by
  intro j u hj; have hj5 : j < 25 := (List.getElem?_eq_some_iff.1 hj).1; rw [Int.toNat_natCast, getElem?_flat irow_len rows k j hj5, hr]; exact hj
def RdT (I : Imm) (v : Value) (its : List (It × Value)) : Prop := RdL I 25 v its.length (its.flatMap irow) ∧ ∀ p ∈ its, RdH I p.2 p.1.heads
theorem RdT.mono {I I' : Imm} {v : Value} {its : List (It × Value)} (h : RdT I v its) (hI : I.le I') : RdT I' v its := ⟨RdL.mono hI h.1, fun p hp => (h.2 p hp).mono hI⟩
theorem RdT.nil (I : Imm) : RdT I (.slice none 0 0) [] := ⟨RdL.nil 25, by simp⟩
def ItsOk (its : List (It × Value)) : Prop := ∀ p ∈ its, ItOk p.1 ∧ encOk (itAV p.1) = true ∧ p.1.heads.length ≤ 1000
def stepP (x : It × Value) (s : List (It × Value) × Bool) (y : It × Value) : List (It × Value) × Bool :=
  let s1 := if y.1.id ≥ x.1.id ∧ s.2 = false then (s.1 ++ [x], true) else s
  if y.1.id ≠ x.1.id then (s1.1 ++ [y], s1.2) else s1
def putA (l : List (It × Value)) (x : It × Value) : List (It × Value) × Bool := l.foldl (stepP x) ([], false)
def putT (l : List (It × Value)) (x : It × Value) : List (It × Value) := if (putA l x).2 = true then (putA l x).1 else (putA l x).1 ++ [x]
def dropT (l : List (It × Value)) (k : Int) : List (It × Value) := l.filter fun y => decide (y.1.id ≠ k)
theorem putA_succ {l : List (It × Value)} {x y : It × Value} {k : Nat} (h : l[k]? = some y) : putA (l.take (k + 1)) x = stepP x (putA (l.take k) x) y := by
  unfold putA; rw [List.take_add_one, h, List.foldl_append]
  rfl
theorem dropT_succ {l : List (It × Value)} {y : It × Value} {k : Nat} {n : Int} (h : l[k]? = some y) : dropT (l.take (k + 1)) n = if y.1.id ≠ n then dropT (l.take k) n ++ [y] else dropT (l.take k) n := by
  unfold dropT; rw [List.take_add_one, h, List.filter_append]
  by_cases h2 : y.1.id = n
  · rw [if_neg (by simp [h2])]; simp [h2]
  · rw [if_pos h2]; simp [h2]
theorem putA_len (l : List (It × Value)) (x : It × Value) : (putA l x).1.length ≤ 2 * l.length := by
  have : ∀ (l : List (It × Value)) (s : List (It × Value) × Bool), (l.foldl (stepP x) s).1.length ≤ s.1.length + 2 * l.length := by
    intro l
    induction l with
    | nil => intro s; simp
    | cons y t ih =>
      intro s; rw [List.foldl_cons]
      have h1 : (stepP x s y).1.length ≤ s.1.length + 2 := by
        unfold stepP; dsimp only
        split <;> split <;> simp
      have := ih (stepP x s y); rw [List.length_cons]; omega
  have h := this l ([], false); unfold putA
  simpa using h
theorem putT_sub {l : List (It × Value)} {x p : It × Value} (h : p ∈ putT l x) : p = x ∨ p ∈ l := by
  have h2 : ∀ (l : List (It × Value)) (s : List (It × Value) × Bool), p ∈ (l.foldl (stepP x) s).1 → p = x ∨ p ∈ s.1 ∨ p ∈ l := by
    intro l
    induction l with
    | nil => intro s h; exact .inr (.inl h)
    | cons y t ih =>
      intro s h; rw [List.foldl_cons] at h
      rcases ih _ h with h | h | h
      · exact .inl h
      · have h3 : p = x ∨ p ∈ s.1 ∨ p = y := by
          unfold stepP at h; dsimp only at h
          by_cases a : y.1.id ≥ x.1.id ∧ s.2 = false
          · rw [if_pos a] at h
            by_cases b : y.1.id ≠ x.1.id
            · rw [if_pos b] at h
              rcases List.mem_append.1 h with h | h
              · rcases List.mem_append.1 h with h | h
                · exact .inr (.inl h)
                · exact .inl (List.mem_singleton.1 h)
              · exact .inr (.inr (List.mem_singleton.1 h))
            · rw [if_neg b] at h
              rcases List.mem_append.1 h with h | h
              · exact .inr (.inl h)
              · exact .inl (List.mem_singleton.1 h)
          · rw [if_neg a] at h
            by_cases b : y.1.id ≠ x.1.id
            · rw [if_pos b] at h
              rcases List.mem_append.1 h with h | h
              · exact .inr (.inl h)
              · exact .inr (.inr (List.mem_singleton.1 h))
            · rw [if_neg b] at h; exact .inr (.inl h)
        rcases h3 with h | h | h
        · exact .inl h
        · exact .inr (.inl h)
        · exact .inr (.inr (by rw [h]; exact List.mem_cons_self ..))
      · exact .inr (.inr (List.mem_cons_of_mem _ h))
  unfold putT at h
  have h1 : p = x ∨ p ∈ (putA l x).1 := by
    split at h
    · exact .inr h
    · rcases List.mem_append.1 h with h | h
      · exact .inr h
      · exact .inl (by simpa using h)
  rcases h1 with h | h
  · exact .inl h
  · rcases h2 l _ h with h | h | h
    · exact .inl h
    · cases h
    · exact .inr h
theorem dropT_len (l : List (It × Value)) (n : Int) : (dropT l n).length ≤ l.length := List.length_filter_le _ _
abbrev Up (l : List (It × Value)) : Prop := l.Pairwise fun a b => a.1.id < b.1.id
theorem fold_done (x : It × Value) : ∀ (l acc : List (It × Value)), l.foldl (stepP x) (acc, true) = (acc ++ dropT l x.1.id, true)
  | [], acc => by simp [dropT]
  | y :: t, acc => by
    rw [List.foldl_cons]
    have e : stepP x (acc, true) y = (if y.1.id ≠ x.1.id then acc ++ [y] else acc, true) := by
      unfold stepP; dsimp only; rw [if_neg (show ¬ (y.1.id ≥ x.1.id ∧ true = false) from fun h => by cases h.2)]
      split <;> rfl
    rw [e, fold_done x t]; unfold dropT
    by_cases h : y.1.id = x.1.id
    · rw [if_neg (by simp [h])]; simp [h]
    · rw [if_pos h]; simp [h]
theorem fold_open (x : It × Value) : ∀ (l acc : List (It × Value)), Up l → (let r := l.foldl (stepP x) (acc, false); if r.2 = true then r.1 else r.1 ++ [x]) = acc ++ (l.filter (fun y => decide (y.1.id < x.1.id)) ++ x :: l.filter (fun y => decide (x.1.id < y.1.id)))
  | [], acc, _ => by simp
  | y :: t, acc, hp => by
    replace hp := List.pairwise_cons.1 hp; rw [List.foldl_cons]
    by_cases h : y.1.id ≥ x.1.id
    · have e : stepP x (acc, false) y = (if y.1.id ≠ x.1.id then acc ++ [x] ++ [y] else acc ++ [x], true) := by
        unfold stepP; dsimp only; rw [if_pos (show y.1.id ≥ x.1.id ∧ false = false from ⟨h, rfl⟩)]
        split <;> rfl
      rw [e, fold_done]
      have h1 : t.filter (fun y => decide (y.1.id < x.1.id)) = [] := List.filter_eq_nil_iff.2 fun z hz => by have := hp.1 z hz; simp; omega
      have h2 : dropT t x.1.id = t.filter (fun y => decide (x.1.id < y.1.id)) := by
        unfold dropT
        refine List.filter_congr fun z hz => ?_
        have := hp.1 z hz; rw [decide_eq_decide]; omega
      rw [h2]; dsimp only; rw [if_pos rfl, List.filter_cons, List.filter_cons, h1, if_neg (show ¬ (decide (y.1.id < x.1.id) = true) by simp; omega)]
      by_cases h3 : y.1.id = x.1.id
      · rw [if_neg (show ¬ (y.1.id ≠ x.1.id) from fun hh => hh h3), if_neg (show ¬ (decide (x.1.id < y.1.id) = true) by simp; omega)]
        simp
      · rw [if_pos (show y.1.id ≠ x.1.id from h3), if_pos (show decide (x.1.id < y.1.id) = true by simp; omega)]
        simp
    · have e : stepP x (acc, false) y = (acc ++ [y], false) := by
        unfold stepP; dsimp only; rw [if_neg (show ¬ (y.1.id ≥ x.1.id ∧ false = false) from fun hh => h hh.1), if_pos (show y.1.id ≠ x.1.id by omega)]
      rw [e, fold_open x t _ hp.2, List.filter_cons, List.filter_cons, if_pos (show decide (y.1.id < x.1.id) = true by simp; omega), if_neg (show ¬ (decide (x.1.id < y.1.id) = true) by simp; omega)]
      simp
theorem putT_eq {l : List (It × Value)} (h : Up l) (x : It × Value) : putT l x = l.filter (fun y => decide (y.1.id < x.1.id)) ++ x :: l.filter (fun y => decide (x.1.id < y.1.id)) := by
  have := fold_open x l [] h; rw [List.nil_append] at this; exact this
theorem putT_mem {l : List (It × Value)} (h : Up l) {x y : It × Value} : y ∈ putT l x ↔ y = x ∨ (y ∈ l ∧ y.1.id ≠ x.1.id) := by
  rw [putT_eq h, List.mem_append, List.mem_cons, List.mem_filter, List.mem_filter]
  simp only [decide_eq_true_eq]
  constructor
  · rintro (⟨h1, h2⟩ | rfl | ⟨h1, h2⟩)
    · exact .inr ⟨h1, by omega⟩
    · exact .inl rfl
    · exact .inr ⟨h1, by omega⟩
  · rintro (rfl | ⟨h1, h2⟩)
    · exact .inr (.inl rfl)
    · rcases Int.lt_or_gt_of_ne h2 with h3 | h3
      · exact .inl ⟨h1, h3⟩
      · exact .inr (.inr ⟨h1, h3⟩)
theorem putT_up {l : List (It × Value)} (h : Up l) (x : It × Value) : Up (putT l x) := by
  rw [putT_eq h]; unfold Up; rw [List.pairwise_append, List.pairwise_cons]; refine ⟨h.filter _, ⟨fun b hb => by simpa using (List.mem_filter.1 hb).2, h.filter _⟩, fun a ha b hb => ?_⟩
  have h1 : a.1.id < x.1.id := by simpa using (List.mem_filter.1 ha).2
  rcases List.mem_cons.1 hb with rfl | hb
  · exact h1
  · have h2 : x.1.id < b.1.id := by simpa using (List.mem_filter.1 hb).2
    omega
theorem dropT_mem {l : List (It × Value)} {k : Int} {y : It × Value} : y ∈ dropT l k ↔ y ∈ l ∧ y.1.id ≠ k := by unfold dropT; rw [List.mem_filter, decide_eq_true_eq]
theorem up_eq : ∀ {a b : List Int}, a.Pairwise (· < ·) → b.Pairwise (· < ·) → (∀ x, x ∈ a ↔ x ∈ b) → a = b
  | [], [], _, _, _ => rfl
  | [], y :: t, _, _, h => absurd ((h y).2 (List.mem_cons_self ..)) (by simp)
  | x :: s, [], _, _, h => absurd ((h x).1 (List.mem_cons_self ..)) (by simp)
  | x :: s, y :: t, ha, hb, h => by
    rw [List.pairwise_cons] at ha hb
    have exy : x = y := by
      rcases List.mem_cons.1 ((h x).1 (List.mem_cons_self ..)) with e | h1
      · exact e
      · rcases List.mem_cons.1 ((h y).2 (List.mem_cons_self ..)) with e | h2
        · exact e.symm
        · have := hb.1 x h1; have := ha.1 y h2; omega
    subst exy; rw [up_eq ha.2 hb.2 (fun z => ⟨fun hz => ?_, fun hz => ?_⟩)]
    · rcases List.mem_cons.1 ((h z).1 (List.mem_cons_of_mem _ hz)) with e | h1
      · have := ha.1 z hz; omega
      · exact h1
    · rcases List.mem_cons.1 ((h z).2 (List.mem_cons_of_mem _ hz)) with e | h1
      · have := hb.1 z hz; omega
      · exact h1
structure Tr (its : List (It × Value)) (A : List (Int × It)) : Prop where
  up : Up its
  get : ∀ p ∈ its, pget A p.1.id = some p.1
  has : ∀ k it, pget A k = some it → ∃ v, (it, v) ∈ its ∧ it.id = k
theorem Tr.nil : Tr [] [] := ⟨List.Pairwise.nil, by simp, fun k it h => by simp [pget] at h⟩
theorem Tr.put {its : List (It × Value)} {A : List (Int × It)} (h : Tr its A) (it : It) (v : Value) : Tr (putT its (it, v)) (pput A it.id it) := by
  refine ⟨putT_up h.up _, fun p hp => ?_, fun k it2 hk => ?_⟩
  · rw [pget_put]
    rcases (putT_mem h.up).1 hp with rfl | ⟨h1, h2⟩
    · rw [if_pos rfl]
    · rw [if_neg h2]; exact h.get p h1
  · rw [pget_put] at hk
    split at hk
    · cases hk
      rename_i e
      exact ⟨v, (putT_mem h.up).2 (.inl rfl), e.symm⟩
    · rename_i e
      obtain ⟨v2, h1, h2⟩ := h.has k it2 hk; exact ⟨v2, (putT_mem h.up).2 (.inr ⟨h1, by rw [h2]; exact e⟩), h2⟩
theorem Tr.drop {its : List (It × Value)} {A : List (Int × It)} (h : Tr its A) (hn : (A.map Prod.fst).Nodup) (n : Int) : Tr (dropT its n) (pdel A n) := by
  refine ⟨h.up.filter _, fun p hp => ?_, fun k it2 hk => ?_⟩
  · obtain ⟨h1, h2⟩ := dropT_mem.1 hp; rw [pget_del hn, if_neg h2]; exact h.get p h1
  · rw [pget_del hn] at hk
    split at hk
    · cases hk
    · rename_i e
      obtain ⟨v2, h1, h2⟩ := h.has k it2 hk; exact ⟨v2, dropT_mem.2 ⟨h1, by rw [h2]; exact e⟩, h2⟩
theorem Tr.keys {its : List (It × Value)} {A : List (Int × It)} (h : Tr its A) (hn : (A.map Prod.fst).Nodup) : keysUp A = its.map fun p => p.1.id := by
  refine up_eq (keysUp_lt hn) (List.pairwise_map.2 h.up) fun k => ?_
  rw [keysUp_mem]
  constructor
  · intro hk
    cases hp : pget A k with
    | none => exact absurd hk (pget_none.1 hp)
    | some it =>
      obtain ⟨v, h1, h2⟩ := h.has k it hp; exact List.mem_map.2 ⟨_, h1, h2⟩
  · intro hk; obtain ⟨p, hp, rfl⟩ := List.mem_map.1 hk; exact List.mem_map.2 ⟨_, pget_mem (h.get p hp), rfl⟩
theorem Tr.is {its : List (It × Value)} {A : List (Int × It)} (h : Tr its A) (n : Int) : (pget A n).isSome = decide ((dropT its n).length < its.length) := by
  cases hp : pget A n with
  | none =>
    have e : dropT its n = its := List.filter_eq_self.2 fun y hy => by
      rw [decide_eq_true_eq]; intro e; rw [← e, h.get y hy] at hp
      cases hp
    rw [e]
    simp
  | some it =>
    obtain ⟨v, h1, h2⟩ := h.has n it hp
    have : (dropT its n).length < its.length := by
      refine Nat.lt_of_le_of_ne (dropT_len _ _) fun e => ?_
      have h3 := List.filter_eq_self.1 (List.Sublist.eq_of_length List.filter_sublist e) _ h1; rw [decide_eq_true_eq] at h3; exact h3 h2
    simp [this]
theorem Tr.of {its : List (It × Value)} {A B : List (Int × It)} (h : Tr its A) (e : ∀ k, pget B k = pget A k) : Tr its B :=
  ⟨h.up, fun p hp => by rw [e]; exact h.get p hp, fun k it hk => h.has k it (by rw [← e]; exact hk)⟩
theorem absT_some {rows : List TRow} {k : Int} {it : It} (h : pget (absT rows) k = some it) : (pget rows k).isSome = true ∧ ((pget rows k).map Prod.fst).getD zeroIt = it := by
  rw [absT_get] at h
  cases hp : pget rows k with
  | none => rw [hp] at h; cases h
  | some p =>
    rw [hp] at h
    cases h
    exact ⟨rfl, rfl⟩
theorem absT_none {rows : List TRow} {k : Int} (h : pget (absT rows) k = none) : (pget rows k).isSome = false := by
  rw [absT_get] at h
  cases hp : pget rows k with
  | none => rfl
  | some p => rw [hp] at h; cases h
theorem growT_snoc {e : TypeId} {v : Value} {out : List (It × Value)} {x : It} {vx : Value} {Lv : Own} (h : Grow e 25 v (out.length + 1) (out.flatMap irow ++ irow2 x vx) Lv) : Grow e 25 v (out ++ [(x, vx)]).length ((out ++ [(x, vx)]).flatMap irow) Lv := by
  rw [List.length_append, List.flatMap_append]; exact h
theorem permO {α : Type} {a : α} {X Y Q : List α} : (a :: (X ++ (Y ++ Q))).Perm (Y ++ (a :: (X ++ Q))) := (List.Perm.cons _ permAB).trans List.perm_middle.symm
end Go.Proofs.YtlmmpcdjkpibcaaGreatX
namespace Go.Proofs.YtlmmpcdjkpibcaaGreatX
set_option linter.unusedVariables false
set_option linter.unusedSimpArgs false
open Go Go.RowKit Go.Proofs
def refRow : AV → List Value
  | .num n => [.int .i64 1, .int .i64 n, .string ⟨#[]⟩, .bool false]
  | .txt s => [.int .i64 2, .int .i64 0, .string s, .bool false]
  | .flg t => [.int .i64 3, .int .i64 0, .string ⟨#[]⟩, .bool t]
  | .oth _ => [.int .i64 0, .int .i64 0, .string ⟨#[]⟩, .bool false]
def refKind : AV → Int
  | .num _ => 1
  | .txt _ => 2
  | .flg _ => 3
  | .oth _ => 0
theorem refRow_len (a : AV) : (refRow a).length = 4 := by cases a <;> rfl
theorem refRow_all (a : AV) : (refRow a).all Value.oneCell' = true := by cases a <;> rfl
theorem refRow_0 (a : AV) : (refRow a).toArray[0]? = some (.int .i64 (refKind a)) := by cases a <;> rfl
theorem refKind_1 {a : AV} (h : refKind a = 1) : ∃ n, a = .num n := by cases a <;> first | exact ⟨_, rfl⟩ | (simp [refKind] at h; done)
theorem refKind_2 {a : AV} (h : refKind a = 2) : ∃ n, a = .txt n := by cases a <;> first | exact ⟨_, rfl⟩ | (simp [refKind] at h; done)
theorem refKind_3 {a : AV} (h : refKind a = 3) : ∃ n, a = .flg n := by cases a <;> first | exact ⟨_, rfl⟩ | (simp [refKind] at h; done)
theorem refKind_0 {a : AV} (h1 : refKind a ≠ 1) (h2 : refKind a ≠ 2) (h3 : refKind a ≠ 3) : ∃ v, a = .oth v := by cases a <;> first | exact ⟨_, rfl⟩ | exact absurd rfl h1 | exact absurd rfl h2 | exact absurd rfl h3
abbrev RdV (I : Imm) (v : Value) (av : List AV) : Prop := RdL I 4 v av.length (av.flatMap refRow)
abbrev GrowV (v : Value) (av : List AV) (Lv : Own) : Prop := Grow 123 4 v av.length (av.flatMap refRow) Lv
theorem GrowV.push {v : Value} {av : List AV} {a : AV} {Lv : Own} (h : Grow 123 4 v (av.length + 1) (av.flatMap refRow ++ refRow a) Lv) : GrowV v (av ++ [a]) Lv := by
  unfold GrowV; rw [List.length_append, List.flatMap_append, List.flatMap_cons, List.flatMap_nil, List.append_nil]; exact h
theorem RdV.row {av : List AV} {k : Nat} {a : AV} (ha : av[k]? = some a) : ∀ (j : Nat) (u : Value), (refRow a)[j]? = some u → (av.flatMap refRow)[k * 4 + j]? = some u := by
  intro j u hj
  have h2 : j < 4 := by have := (List.getElem?_eq_some_iff.1 hj).1; rwa [refRow_len] at this
  rw [getElem?_flat refRow_len av k j h2, ha]; exact hj
set_option maxRecDepth 100000 in
set_option maxHeartbeats 1000000 in
theorem refI_spec {w0 w : World} {I : Imm} {L : Own} (hst : St w0 w I L) (n : Int) :
    Calls Tryz.prog 73 #[.int .i64 n] w fun e w' => e = .returned (.agg (refRow (.num n)).toArray) ∧ St w0 w' I L := by
  refine enter Tryz.func73 rfl (N := 5) rfl rfl ?_
  simp only [List.zipIdx_cons, List.zipIdx_nil, List.map_cons, List.map_nil, Nat.zero_add, Nat.reduceAdd]
  have hle := Imm.le.refl I; refine CW.seq ?_; refine CW.region ?_; refine RW.opE rfl (runs_alloc ti123 hst) ?_; rintro _ w ⟨b1, rfl, hstn⟩; clear hst; have hst := hstn; clear hstn; refine RW.done ?_; refine AQ.next ?_; refine CW.seq ?_; refine CW.region ?_; refine RW.op1 rfl (runs_move rfl) ?_; refine RW.op1 rfl (runs_buildF (cells := [_, _, _, _]) bz123 rfl rfl rfl rfl rfl) ?_
  refine RW.opE0 (runs_storeW ti123 rfl rfl hst (k := 0) rfl rfl rfl (NoFz.zero _) rfl) ?_
  rintro w hstn; clear hst; have hst := hstn; clear hstn; try simp only [List.set_cons_zero, List.set_cons_succ] at hst
  refine RW.done ?_; refine AQ.next ?_; refine CW.ret ?_; refine AQ.retS rfl rfl (hst.loadN (vs := [_, _, _, _]) (k := 0) ag123 ti123 rfl rfl rfl) ?_; exact ⟨rfl, hst.drop1⟩
set_option maxRecDepth 100000 in
set_option maxHeartbeats 1000000 in
theorem refS_spec {w0 w : World} {I : Imm} {L : Own} (hst : St w0 w I L) (n : ByteArray) :
    Calls Tryz.prog 74 #[.string n] w fun e w' => e = .returned (.agg (refRow (.txt n)).toArray) ∧ St w0 w' I L := by
  refine enter Tryz.func74 rfl (N := 5) rfl rfl ?_
  simp only [List.zipIdx_cons, List.zipIdx_nil, List.map_cons, List.map_nil, Nat.zero_add, Nat.reduceAdd]
  have hle := Imm.le.refl I; refine CW.seq ?_; refine CW.region ?_; refine RW.opE rfl (runs_alloc ti123 hst) ?_; rintro _ w ⟨b1, rfl, hstn⟩; clear hst; have hst := hstn; clear hstn; refine RW.done ?_; refine AQ.next ?_; refine CW.seq ?_; refine CW.region ?_; refine RW.op1 rfl (runs_move rfl) ?_; refine RW.op1 rfl (runs_buildF (cells := [_, _, _, _]) bz123 rfl rfl rfl rfl rfl) ?_
  refine RW.opE0 (runs_storeW ti123 rfl rfl hst (k := 0) rfl rfl rfl (NoFz.zero _) rfl) ?_
  rintro w hstn; clear hst; have hst := hstn; clear hstn; try simp only [List.set_cons_zero, List.set_cons_succ] at hst
  refine RW.done ?_; refine AQ.next ?_; refine CW.ret ?_; refine AQ.retS rfl rfl (hst.loadN (vs := [_, _, _, _]) (k := 0) ag123 ti123 rfl rfl rfl) ?_; exact ⟨rfl, hst.drop1⟩
set_option maxRecDepth 100000 in
set_option maxHeartbeats 1000000 in
theorem refB_spec {w0 w : World} {I : Imm} {L : Own} (hst : St w0 w I L) (n : Bool) :
    Calls Tryz.prog 75 #[.bool n] w fun e w' => e = .returned (.agg (refRow (.flg n)).toArray) ∧ St w0 w' I L := by
  refine enter Tryz.func75 rfl (N := 5) rfl rfl ?_
  simp only [List.zipIdx_cons, List.zipIdx_nil, List.map_cons, List.map_nil, Nat.zero_add, Nat.reduceAdd]
  have hle := Imm.le.refl I; refine CW.seq ?_; refine CW.region ?_; refine RW.opE rfl (runs_alloc ti123 hst) ?_; rintro _ w ⟨b1, rfl, hstn⟩; clear hst; have hst := hstn; clear hstn; refine RW.done ?_; refine AQ.next ?_; refine CW.seq ?_; refine CW.region ?_; refine RW.op1 rfl (runs_move rfl) ?_; refine RW.op1 rfl (runs_buildF (cells := [_, _, _, _]) bz123 rfl rfl rfl rfl rfl) ?_
  refine RW.opE0 (runs_storeW ti123 rfl rfl hst (k := 0) rfl rfl rfl (NoFz.zero _) rfl) ?_
  rintro w hstn; clear hst; have hst := hstn; clear hstn; try simp only [List.set_cons_zero, List.set_cons_succ] at hst
  refine RW.done ?_; refine AQ.next ?_; refine CW.ret ?_; refine AQ.retS rfl rfl (hst.loadN (vs := [_, _, _, _]) (k := 0) ag123 ti123 rfl rfl rfl) ?_; exact ⟨rfl, hst.drop1⟩
set_option maxRecDepth 100000 in
set_option maxHeartbeats 1000000 in
theorem refenc_spec {w0 w : World} {I : Imm} {L : Own} (hst : St w0 w I L) {v : Value} {av : List AV} {m : Nat} {o : Bool} (hv : RdV I v av) (hgood : ∀ a ∈ av, a.good m o) (hlen : av.length ≤ 100000000) :
    Calls Tryz.prog 76 #[v] w fun r w' => ∃ I' v', Imm.le I I' ∧ r = .returned (.tuple #[v', .bool (encOk av)]) ∧ St w0 w' I' L ∧ RdB I' v' (if encOk av then encA av else []) := by
  refine enter Tryz.func76 rfl (N := 63) rfl rfl ?_
  simp only [List.zipIdx_cons, List.zipIdx_nil, List.map_cons, List.map_nil, Nat.zero_add, Nat.reduceAdd]
  have hle := Imm.le.refl I; refine CW.seq ?_; refine CW.region ?_; refine RW.op1 rfl (runs_assign rfl) ?_; refine RW.op1 rfl (runs_assign rfl) ?_; refine RW.done ?_; refine AQ.next ?_; refine CW.seq ?_; refine CW.region ?_; refine RW.op1 rfl (runs_assign rfl) ?_; refine RW.done ?_; refine AQ.next ?_; refine CW.seq ?_; refine CW.seq ?_; refine CW.region ?_; refine RW.op1 rfl (runs_move rfl) ?_; refine RW.op1 rfl (RdL.len Tryz.underlying126 rfl hv) ?_; refine RW.op1 rfl (runs_move rfl) ?_; refine RW.done ?_; refine AQ.next ?_; refine CW.block ?_; refine CW.loop (Nat × Value × Own × Imm) (fun x w => I.le x.2.2.2 ∧ St w0 w x.2.2.2 (x.2.2.1 ++ L) ∧ GrowB 5 x.2.1 (encA (av.take x.1)) x.2.2.1 ∧ encOk (av.take x.1) = true ∧ x.1 ≤ av.length) (fun x => [(4, x.2.1), (8, v), (9, .int .i64 (av.length : Nat)), (10, .int .i64 (x.1 : Int))]) (fun x => av.length - x.1) ⟨(0, .slice none 0 0, [], I), ⟨Imm.le.refl _, hst, by rw [List.take_zero]; exact GrowB.nil _, rfl, Nat.zero_le _⟩, ⟨rfl, rfl, rfl, rfl, trivial⟩⟩ ?_; rintro ⟨k, vo, Lo, I5⟩ w ⟨hle, hstn, hg, hok, hk0⟩; dsimp only at hle hstn hg hok hk0 ⊢; clear hst; have hst := hstn; clear hstn; refine CW.seq ?_; refine CW.region ?_; refine RW.op1 rfl (runs_lss rfl rfl) ?_; refine RW.done ?_; refine AQ.next ?_; refine CW.seq ?_; refine CW.cond rfl (fun hc11 => ?_) (fun hc11 => ?_)
  · have hcb11 := hc11; try simp only [decide_eq_true_eq, decide_eq_false_iff_not] at hc11
    have hk : k < av.length := by omega
    have hga := hgood _ (List.getElem_mem hk); have hvk := RdL.mono hle hv; have hsz := encA_le hok
    have htk : (av.take k).length ≤ 100000000 := by rw [List.length_take]; omega
    obtain ⟨a, ha⟩ : ∃ a, av[k] = a := ⟨_, rfl⟩; have e1 : av[k] = a := ha
    have hak : av[k]? = some a := by rw [List.getElem?_eq_getElem hk, ha]
    rw [ha] at hga; refine CW.skip ?_; refine AQ.next ?_; refine CW.seq ?_; refine CW.block ?_; refine CW.seq ?_; refine CW.region ?_; refine RW.op1 rfl (RdL.indexAddr Tryz.underlying126 ti123 (by decide) rfl rfl hvk (by omega)) ?_; refine RW.op1 rfl (RdL.loadRow (row := refRow a) ag123 ti123 rfl hvk hst (refRow_len a) (by intro j u hj; rw [Int.toNat_natCast]; exact RdV.row hak j u hj)) ?_; refine RW.opE rfl (runs_alloc ti123 hst) ?_; rintro _ w ⟨b1, rfl, hstn⟩; clear hst; have hst := hstn; clear hstn; refine RW.opE0 (runs_storeW ti123 rfl rfl hst (k := 0) rfl (refRow_len a) rfl (NoFz.zero _) (refRow_all a)) ?_; rintro w hstn; clear hst; have hst := hstn; clear hstn; try simp only [List.set_cons_zero, List.set_cons_succ] at hst
    refine RW.done ?_; refine AQ.next ?_; refine CW.seq ?_; refine CW.region ?_
    refine RW.op1 rfl (runs_fieldAddr0 rfl Tryz.underlying123 rfl ti3 (by decide)) ?_
    refine RW.op1 rfl (runs_load1 sc3 rfl (hst.cell_own (v := .int .i64 (refKind a)) (k := 0) rfl (refRow_0 a))) ?_; refine RW.done ?_; refine AQ.next ?_; refine CW.block ?_; refine CW.seq ?_; refine CW.region ?_; refine RW.op1 rfl (runs_eqI rfl rfl) ?_; refine RW.op1 rfl (runs_assign rfl) ?_; refine RW.done ?_; refine AQ.next ?_; refine CW.cond rfl (fun hc16 => ?_) (fun hc16 => ?_)
    · have hcb16 := hc16; try simp only [decide_eq_true_eq, decide_eq_false_iff_not] at hc16
      obtain ⟨n, rfl⟩ := refKind_1 hc16; refine CW.seq ?_; refine CW.region ?_; refine RW.op1 rfl (runs_move rfl) ?_; refine RW.opE rfl (runs_litB (bs := [105]) rfl Tryz.underlying37 ti5 (by decide) rfl rfl rfl hst) ?_; rintro u3 w ⟨J3, hJ3, hstn, hL19⟩; clear hst; have hst := hstn; clear hstn; replace hle := hle.trans hJ3; refine RW.opE rfl (runs_appendB Tryz.underlying37 ti5 rfl rfl (hst.perm List.perm_middle.symm) hg hL19 (by simp only [List.length_append, List.length_cons, List.length_nil]; omega)) ?_; rintro u4 w ⟨Lv4, hstn, hG20⟩; clear hst; have hst := hstn; clear hstn; replace hst := hst.perm List.perm_middle; refine RW.op1 rfl (runs_assign rfl) ?_; refine RW.done ?_; refine AQ.next ?_; refine CW.seq ?_; refine CW.region ?_; refine RW.op1 rfl (runs_assign rfl) ?_; refine RW.done ?_; refine AQ.next ?_; refine CW.block ?_; refine CW.loop (Nat × Value × Own × Imm) (fun x w => I.le x.2.2.2 ∧ St w0 w x.2.2.2 ((b1, .cells (refRow (.num n)).toArray 123) :: (x.2.2.1 ++ L)) ∧ GrowB 5 x.2.1 (encA (av.take k) ++ [105] ++ (be8 n).take x.1) x.2.2.1 ∧ x.1 ≤ 8) (fun x => [(6, .pointer (some ⟨b1, 0, none⟩)), (8, v), (9, .int .i64 (av.length : Nat)), (10, .int .i64 (k : Int)), (4, x.2.1), (7, .int .i64 (56 - 8 * (x.1 : Int)))]) (fun x => 8 - x.1) ⟨(0, _, _, _), ⟨hle, hst, by rw [List.take_zero, List.append_nil]; exact hG20, by omega⟩, ⟨rfl, rfl, rfl, rfl, rfl, rfl, trivial⟩⟩ ?_; rintro ⟨j, vi, Li, I6⟩ w ⟨hle, hstn, hg, hj0⟩; dsimp only at hle hstn hg hj0 ⊢; clear hst; have hst := hstn
      clear hstn; refine CW.seq ?_; refine CW.seq ?_; refine CW.region ?_; refine RW.op1 rfl (runs_move rfl) ?_; refine RW.op1 rfl (runs_geq rfl rfl) ?_; refine RW.done ?_; refine AQ.next ?_; refine CW.cond rfl (fun hc22 => ?_) (fun hc22 => ?_)
      · have hcb22 := hc22; try simp only [decide_eq_true_eq, decide_eq_false_iff_not] at hc22
        have hj : j < 8 := by omega
        have hbl : ((be8 n).take j).length ≤ 8 := by rw [List.length_take]; omega
        refine CW.skip ?_; refine AQ.next ?_; refine CW.seq ?_; refine CW.block ?_; refine CW.region ?_; refine RW.op1 rfl (runs_move rfl) ?_
        refine RW.op1 rfl (runs_fieldAddr0 rfl Tryz.underlying123 rfl ti3 (by decide)) ?_
        refine RW.op1 rfl (runs_load1 sc3 rfl (hst.cell_own (v := .int .i64 n) (k := 0) rfl rfl)) ?_; refine RW.op1 rfl (runs_convI (by rw [Tryz.underlying3]; rfl) Tryz.underlying101 rfl) ?_; refine RW.op1 rfl (runs_move rfl) ?_; refine RW.op1 rfl (runs_convI (by rw [Tryz.underlying3]; rfl) Tryz.underlying114 rfl) ?_
        have e30 : IntKind.u64.wrap (56 - 8 * (j : Int)) = ((8 * (7 - j) : Nat) : Int) := by rw [IntKind.wrap_u64]; omega
        rw [e30]; refine RW.op1 rfl (runs_shr (n := 8 * (7 - j)) rfl rfl (by show 8 * (7 - j) ≤ 64; omega)) ?_; refine RW.op1 rfl (runs_convB (by rw [Tryz.underlying101]; rfl) Tryz.underlying5 rfl) ?_; refine RW.opE rfl (runs_litB (bs := [u8 ((IntKind.u64.wrap n).fdiv (2 ^ (8 * (7 - j))))]) rfl Tryz.underlying37 ti5 (by decide) rfl rfl rfl hst) ?_; rintro u5 w ⟨J5, hJ5, hstn, hL33⟩; clear hst; have hst := hstn; clear hstn; replace hle := hle.trans hJ5; refine RW.opE rfl (runs_appendB Tryz.underlying37 ti5 rfl rfl (hst.perm List.perm_middle.symm) hg hL33 (by simp only [List.length_append, List.length_cons, List.length_nil]; omega)) ?_; rintro u6 w ⟨Lv6, hstn, hG34⟩; clear hst; have hst := hstn; clear hstn; replace hst := hst.perm List.perm_middle; refine RW.op1 rfl (runs_assign rfl) ?_; refine RW.done ?_; refine AQ.block_normal ?_; refine AQ.next ?_; refine CW.region ?_; refine RW.op1 rfl (runs_move rfl) ?_; refine RW.op1 rfl (runs_sub rfl rfl (by omega)) ?_; rw [show 56 - 8 * (j : Int) - 8 = 56 - 8 * ((j + 1 : Nat) : Int) by omega]; refine RW.op1 rfl (runs_assign rfl) ?_; refine RW.done ?_; exact AQ.again (x := (j, vi, Li, I6)) (j + 1, _, _, _) ⟨hle, hst, by rw [be8_take n hj, ← List.append_assoc]; exact hG34, by omega⟩ ⟨rfl, rfl, rfl, rfl, rfl, rfl, trivial⟩ (by dsimp only; omega)
      · have hcb22 := hc22; try simp only [decide_eq_true_eq, decide_eq_false_iff_not] at hc22
        skip
        refine CW.exit ?_; refine AQ.past_exit ?_; refine AQ.past_exit ?_; refine AQ.block_hit ?_; refine AQ.block_normal ?_; refine AQ.block_normal ?_; refine AQ.next ?_; refine CW.region ?_; refine RW.op1 rfl (runs_add rfl rfl (by omega)) ?_; refine RW.op1 rfl (runs_move rfl) ?_; refine RW.done ?_; have hb8 : (be8 n).take j = be8 n := List.take_of_length_le (by rw [be8_length]; omega); rw [hb8] at hg; exact AQ.again (x := (k, vo, Lo, I5)) (k + 1, _, _, _) ⟨hle, hst.drop1, by rw [encA_take hk, e1]; simpa [enc1] using hg, encOk_take hk hok (by rw [e1]; rfl), by omega⟩ ⟨rfl, rfl, rfl, rfl, trivial⟩ (by dsimp only; omega)
    · have hcb16 := hc16; try simp only [decide_eq_true_eq, decide_eq_false_iff_not] at hc16
      skip
      refine CW.seq ?_; refine CW.region ?_; refine RW.op1 rfl (runs_eqI rfl rfl) ?_; refine RW.op1 rfl (runs_assign rfl) ?_; refine RW.done ?_; refine AQ.next ?_; refine CW.cond rfl (fun hc35 => ?_) (fun hc35 => ?_)
      · have hcb35 := hc35; try simp only [decide_eq_true_eq, decide_eq_false_iff_not] at hc35
        obtain ⟨b, rfl⟩ := refKind_2 hc35; refine CW.seq ?_; refine CW.seq ?_; refine CW.region ?_
        refine RW.op1 rfl (runs_fieldAddr0 rfl Tryz.underlying123 rfl ti9 (by decide)) ?_
        refine RW.op1 rfl (runs_load1 sc9 rfl (hst.cell_own (v := .string b) (k := 0) rfl rfl)) ?_; refine RW.op1 rfl (runs_lenS Tryz.underlying9 rfl) ?_; refine RW.op1 rfl (runs_gtr rfl rfl) ?_; refine RW.done ?_; refine AQ.next ?_; refine CW.cond rfl (fun hc40 => ?_) (fun hc40 => ?_)
        · have hcb40 := hc40; try simp only [decide_eq_true_eq, decide_eq_false_iff_not] at hc40
          skip
          refine CW.seq ?_; refine CW.region ?_; refine RW.op1 rfl (runs_assign rfl) ?_; refine RW.op1 rfl (runs_assign rfl) ?_; refine RW.done ?_; refine AQ.next ?_; refine CW.ret ?_; refine AQ.past_ret ?_; refine AQ.block_ret ?_; refine AQ.block_ret ?_; refine AQ.past_ret ?_; refine AQ.past_ret ?_; refine AQ.block_ret ?_; refine AQ.past_ret ?_; refine AQ.ret2 rfl rfl rfl ?_; rw [encOk_no hk (by rw [e1]; simp [enc1Ok]; omega)]; exact ⟨_, _, hle, rfl, (hst.drop1).sub (List.sublist_append_right _ _), RdL.nil 1⟩
        · have hcb40 := hc40; try simp only [decide_eq_true_eq, decide_eq_false_iff_not] at hc40
          have hbl := size_toList b; refine CW.skip ?_; refine AQ.next ?_; refine CW.draw (FSt w0 I5 ((b1, .cells (refRow (.txt b)).toArray 123) :: L)) (.q 0 (.q 1 (.q 2 (.q 3 (.q 4 (.q 7 (.q 8 (.l 5 (.l 6 (.l 9 (.q 10 .nil))))))))))) follows (by kernel_rfl) ⟨_, Imm.le.refl _, hst.draw.sub ((List.sublist_append_right _ _).cons_cons _)⟩ ?_; replace hst := hst.draw; refine DRW.q rfl rfl (fun w' hF => runs_move rfl) ?_
          refine DRW.q rfl rfl (fun w' hF => runs_fieldAddr0 rfl Tryz.underlying123 rfl ti9 (by decide)) ?_
          refine DRW.q rfl rfl (FSt.load1_own (v := .string b) sc9 rfl (k := 0) rfl rfl) ?_; refine DRW.q rfl rfl (fun w' hF => runs_lenS Tryz.underlying9 rfl) ?_; refine DRW.q rfl rfl (fun w' hF => runs_convB (by rw [Tryz.underlying3]; rfl) Tryz.underlying5 rfl) ?_
          refine DRW.q rfl rfl (fun w' hF => runs_fieldAddr0 rfl Tryz.underlying123 rfl ti9 (by decide)) ?_
          refine DRW.q rfl rfl (FSt.load1_own (v := .string b) sc9 rfl (k := 0) rfl rfl) ?_; refine DRW.opE rfl rfl (runs_litB (bs := [115, _]) rfl Tryz.underlying37 ti5 (by decide) rfl rfl rfl hst) ?_; rintro u7 w ⟨I7, hI7, hstn, h7⟩; clear hst; have hst := hstn; clear hstn; replace hle := hle.trans hI7; refine ⟨FSt.of hst hI7 (by first | exact ((List.sublist_append_right _ _).cons_cons _) | exact List.sublist_append_right _ _), ?_⟩; refine DRW.opE rfl rfl (runs_appendB Tryz.underlying37 ti5 rfl rfl (hst.perm List.perm_middle.symm) hg (by assumption) (by simp only [List.length_append, List.length_cons, List.length_nil]; omega)) ?_; rintro u8 w ⟨Lv8, hstn, hG47⟩; clear hst; have hst := hstn; clear hstn; refine ⟨FSt.of hst hI7 (by first | exact ((List.sublist_append_right _ _).cons_cons _) | exact List.sublist_append_right _ _), ?_⟩; replace hst := hst.perm List.perm_middle; refine DRW.opE rfl rfl (runs_appendS Tryz.underlying37 ti5 Tryz.underlying9 rfl rfl (hst.perm List.perm_middle.symm) hG47 (by simp only [List.length_append, List.length_cons, List.length_nil]; omega)) ?_; rintro u9 w ⟨Lv9, hstn, hG50⟩; clear hst; have hst := hstn; clear hstn; refine ⟨FSt.of hst hI7 (by first | exact ((List.sublist_append_right _ _).cons_cons _) | exact List.sublist_append_right _ _), ?_⟩; replace hst := hst.perm List.perm_middle; refine DRW.q rfl rfl (fun w' hF => runs_assign rfl) ?_; refine DRW.done ?_; refine AQ.block_normal ?_; refine AQ.block_normal ?_; refine AQ.next ?_
          refine CW.region ?_; refine RW.op1 rfl (runs_add rfl rfl (by omega)) ?_; refine RW.op1 rfl (runs_move rfl) ?_; refine RW.done ?_
          skip
          exact AQ.again (x := (k, vo, Lo, I5)) (k + 1, _, _, _) ⟨hle, hst.drop1, by rw [encA_take hk, e1]; simpa [enc1] using hG50, encOk_take hk hok (by rw [e1]; simp [enc1Ok]; omega), by omega⟩ ⟨rfl, rfl, rfl, rfl, trivial⟩ (by dsimp only; omega)
      · have hcb35 := hc35; try simp only [decide_eq_true_eq, decide_eq_false_iff_not] at hc35
        skip
        refine CW.seq ?_; refine CW.region ?_; refine RW.op1 rfl (runs_eqI rfl rfl) ?_; refine RW.op1 rfl (runs_assign rfl) ?_; refine RW.done ?_; refine AQ.next ?_; refine CW.cond rfl (fun hc51 => ?_) (fun hc51 => ?_)
        · have hcb51 := hc51; try simp only [decide_eq_true_eq, decide_eq_false_iff_not] at hc51
          obtain ⟨t, rfl⟩ := refKind_3 hc51; refine CW.seq ?_; refine CW.region ?_
          refine RW.op1 rfl (runs_fieldAddr0 rfl Tryz.underlying123 rfl ti4 (by decide)) ?_
          refine RW.op1 rfl (runs_load1 sc4 rfl (hst.cell_own (v := .bool t) (k := 0) rfl rfl)) ?_; refine RW.done ?_; refine AQ.next ?_; refine CW.cond rfl (fun hc54 => ?_) (fun hc54 => ?_)
          · have hcb54 := hc54; try simp only [decide_eq_true_eq, decide_eq_false_iff_not] at hc54
            refine CW.region ?_; refine RW.op1 rfl (runs_move rfl) ?_; refine RW.opE rfl (runs_litB (bs := [116]) rfl Tryz.underlying37 ti5 (by decide) rfl rfl rfl hst) ?_; rintro u10 w ⟨J10, hJ10, hstn, hL56⟩; clear hst; have hst := hstn; clear hstn; replace hle := hle.trans hJ10; refine RW.opE rfl (runs_appendB Tryz.underlying37 ti5 rfl rfl (hst.perm List.perm_middle.symm) hg hL56 (by simp only [List.length_append, List.length_cons, List.length_nil]; omega)) ?_; rintro u11 w ⟨Lv11, hstn, hG57⟩; clear hst; have hst := hstn; clear hstn; replace hst := hst.perm List.perm_middle; refine RW.op1 rfl (runs_assign rfl) ?_; refine RW.done ?_; refine AQ.block_normal ?_; refine AQ.block_normal ?_; refine AQ.next ?_; refine CW.region ?_; refine RW.op1 rfl (runs_add rfl rfl (by omega)) ?_; refine RW.op1 rfl (runs_move rfl) ?_; refine RW.done ?_; subst hcb54; exact AQ.again (x := (k, vo, Lo, I5)) (k + 1, _, _, _) ⟨hle, hst.drop1, by rw [encA_take hk, e1]; simpa [enc1] using hG57, encOk_take hk hok (by rw [e1]; rfl), by omega⟩ ⟨rfl, rfl, rfl, rfl, trivial⟩ (by dsimp only; omega)
          · have hcb54 := hc54; try simp only [decide_eq_true_eq, decide_eq_false_iff_not] at hc54
            refine CW.region ?_; refine RW.op1 rfl (runs_move rfl) ?_; refine RW.opE rfl (runs_litB (bs := [102]) rfl Tryz.underlying37 ti5 (by decide) rfl rfl rfl hst) ?_; rintro u12 w ⟨J12, hJ12, hstn, hL59⟩; clear hst; have hst := hstn; clear hstn; replace hle := hle.trans hJ12; refine RW.opE rfl (runs_appendB Tryz.underlying37 ti5 rfl rfl (hst.perm List.perm_middle.symm) hg hL59 (by simp only [List.length_append, List.length_cons, List.length_nil]; omega)) ?_; rintro u13 w ⟨Lv13, hstn, hG60⟩; clear hst; have hst := hstn; clear hstn; replace hst := hst.perm List.perm_middle; refine RW.op1 rfl (runs_assign rfl) ?_; refine RW.done ?_; refine AQ.block_normal ?_; refine AQ.block_normal ?_; refine AQ.next ?_; refine CW.region ?_; refine RW.op1 rfl (runs_add rfl rfl (by omega)) ?_; refine RW.op1 rfl (runs_move rfl) ?_; refine RW.done ?_; subst hcb54; exact AQ.again (x := (k, vo, Lo, I5)) (k + 1, _, _, _) ⟨hle, hst.drop1, by rw [encA_take hk, e1]; simpa [enc1] using hG60, encOk_take hk hok (by rw [e1]; rfl), by omega⟩ ⟨rfl, rfl, rfl, rfl, trivial⟩ (by dsimp only; omega)
        · have hcb51 := hc51; try simp only [decide_eq_true_eq, decide_eq_false_iff_not] at hc51
          obtain ⟨u, rfl⟩ := refKind_0 hc16 hc35 hc51; refine CW.seq ?_; refine CW.region ?_; refine RW.op1 rfl (runs_assign rfl) ?_; refine RW.op1 rfl (runs_assign rfl) ?_; refine RW.done ?_; refine AQ.next ?_; refine CW.ret ?_; refine AQ.block_ret ?_; refine AQ.block_ret ?_; refine AQ.past_ret ?_; refine AQ.past_ret ?_; refine AQ.block_ret ?_; refine AQ.past_ret ?_; refine AQ.ret2 rfl rfl rfl ?_; rw [encOk_no hk (by rw [e1]; rfl)]; exact ⟨_, _, hle, rfl, (hst.drop1).sub (List.sublist_append_right _ _), RdL.nil 1⟩
  · have hcb11 := hc11; try simp only [decide_eq_true_eq, decide_eq_false_iff_not] at hc11
    skip
    refine CW.exit ?_; refine AQ.past_exit ?_; refine AQ.past_exit ?_; refine AQ.block_hit ?_; refine AQ.next ?_; refine CW.seq ?_; refine CW.region ?_; refine RW.op1 rfl (runs_move rfl) ?_; refine RW.op1 rfl (runs_assign rfl) ?_; refine RW.op1 rfl (runs_assign rfl) ?_; refine RW.done ?_; refine AQ.next ?_; refine CW.ret ?_; refine AQ.ret2 rfl rfl rfl ?_; have hkl : av.take k = av := List.take_of_length_le (by omega); rw [hkl] at hok hg; rw [hok]; obtain ⟨I', hI, hst, hr⟩ := GrowB.freeze hg hst; exact ⟨I', _, hle.trans hI, rfl, hst, hr⟩
set_option maxRecDepth 100000 in
set_option maxHeartbeats 4000000 in
theorem rbytes17_spec {w0 w : World} {I : Imm} {L : Own} (hst : St w0 w I L) {it : It} {vh : Value} (hv : RdH I vh it.heads) (hok : ItOk it) (hlen : it.heads.length ≤ 1000) :
    Calls Tryz.prog 64 #[itv it vh] w fun e w' => ∃ I' v', I.le I' ∧ e = .returned (.tuple #[v', .bool (encOk (itAV it))]) ∧ St w0 w' I' L ∧ RdB I' v' (if encOk (itAV it) then encA (itAV it) else []) := by
  obtain ⟨m, hgood⟩ := itAV_good hok
  obtain ⟨A, c, rfl⟩ : ∃ A c, vh = .slice A it.heads.length c := by obtain ⟨_, _, A, c, e, _⟩ := hv; exact ⟨A, c, e⟩
  refine enter Tryz.func64 rfl (N := 124) rfl rfl ?_
  simp only [List.zipIdx_cons, List.zipIdx_nil, List.map_cons, List.map_nil, Nat.zero_add, Nat.reduceAdd]
  have hle := Imm.le.refl I; refine CW.seq ?_; refine CW.region ?_; refine RW.opE rfl (runs_box rfl hst) ?_; rintro _ w ⟨b1, rfl, hstn⟩; clear hst; have hst := hstn; clear hstn; refine RW.op1 rfl (runs_assign rfl) ?_; refine RW.op1 rfl (runs_assign rfl) ?_; refine RW.done ?_; refine AQ.next ?_; refine CW.seq ?_; refine CW.drawSt hst (.q 0 (.q 1 (.q 3 (.q 4 (.q 6 (.q 7 (.q 9 (.q 10 (.q 12 (.q 13 (.q 14 (.q 16 (.q 17 (.q 18 (.q 20 (.q 21 (.q 22 (.q 23 (.l 2 (.l 5 (.l 8 (.l 11 (.l 15 (.l 19 (.l 24 (.l 25 (.q 26 .nil))))))))))))))))))))))))))) follows (by kernel_rfl) (fun w hst => ?_)
  refine DRW.q rfl rfl (fun w' hF => runs_fieldAddr0 rfl Tryz.underlying32 rfl ti3 (by decide)) ?_
  refine DRW.q rfl rfl (FSt.load1_own sc3 rfl (k := 0) rfl rfl) ?_
  refine DRW.q rfl rfl (fun w' hF => runs_fieldAddr0 rfl Tryz.underlying32 rfl ti3 (by decide)) ?_
  refine DRW.q rfl rfl (FSt.load1_own sc3 rfl (k := 0) rfl rfl) ?_
  refine DRW.q rfl rfl (fun w' hF => runs_fieldAddr0 rfl Tryz.underlying32 rfl ti3 (by decide)) ?_
  refine DRW.q rfl rfl (FSt.load1_own sc3 rfl (k := 0) rfl rfl) ?_
  refine DRW.q rfl rfl (fun w' hF => runs_fieldAddr0 rfl Tryz.underlying32 rfl ti9 (by decide)) ?_
  refine DRW.q rfl rfl (FSt.load1_own sc9 rfl (k := 0) rfl rfl) ?_
  refine DRW.q rfl rfl (fun w' hF => runs_fieldAddr0 rfl Tryz.underlying32 rfl ti28 (by decide)) ?_
  refine DRW.q rfl rfl (fun w' hF => runs_fieldAddr0 rfl Tryz.underlying28 rfl ti9 (by decide)) ?_
  refine DRW.q rfl rfl (FSt.load1_own sc9 rfl (k := 0) rfl rfl) ?_
  refine DRW.q rfl rfl (fun w' hF => runs_fieldAddr0 rfl Tryz.underlying32 rfl ti28 (by decide)) ?_
  refine DRW.q rfl rfl (fun w' hF => runs_fieldAddr0 rfl Tryz.underlying28 rfl ti9 (by decide)) ?_
  refine DRW.q rfl rfl (FSt.load1_own sc9 rfl (k := 0) rfl rfl) ?_
  refine DRW.q rfl rfl (fun w' hF => runs_fieldAddr0 rfl Tryz.underlying32 rfl ti28 (by decide)) ?_
  refine DRW.q rfl rfl (fun w' hF => runs_fieldAddr0 rfl Tryz.underlying28 rfl ti26 (by decide)) ?_
  refine DRW.q rfl rfl (FSt.load1_own sc26 rfl (k := 0) rfl rfl) ?_
  refine DRW.q rfl rfl (fun w' hF => runs_lenL Tryz.underlying26 rfl) ?_; refine DRW.call rfl rfl call73 rfl rfl (refI_spec hst _) ?_; rintro e w ⟨rfl, hstn⟩; clear hst; have hst := hstn; clear hstn; refine ⟨_, rfl, FSt.ofA hst (Imm.le.refl _), ?_⟩; refine DRW.call rfl rfl call73 rfl rfl (refI_spec hst _) ?_; rintro e w ⟨rfl, hstn⟩; clear hst; have hst := hstn; clear hstn; refine ⟨_, rfl, FSt.ofA hst (Imm.le.refl _), ?_⟩; refine DRW.call rfl rfl call73 rfl rfl (refI_spec hst _) ?_; rintro e w ⟨rfl, hstn⟩; clear hst; have hst := hstn; clear hstn; refine ⟨_, rfl, FSt.ofA hst (Imm.le.refl _), ?_⟩; refine DRW.call rfl rfl call74 rfl rfl (refS_spec hst _) ?_; rintro e w ⟨rfl, hstn⟩; clear hst; have hst := hstn; clear hstn; refine ⟨_, rfl, FSt.ofA hst (Imm.le.refl _), ?_⟩; refine DRW.call rfl rfl call74 rfl rfl (refS_spec hst _) ?_; rintro e w ⟨rfl, hstn⟩; clear hst; have hst := hstn; clear hstn; refine ⟨_, rfl, FSt.ofA hst (Imm.le.refl _), ?_⟩; refine DRW.call rfl rfl call74 rfl rfl (refS_spec hst _) ?_; rintro e w ⟨rfl, hstn⟩; clear hst; have hst := hstn; clear hstn; refine ⟨_, rfl, FSt.ofA hst (Imm.le.refl _), ?_⟩; refine DRW.call rfl rfl call73 rfl rfl (refI_spec hst _) ?_; rintro e w ⟨rfl, hstn⟩; clear hst; have hst := hstn; clear hstn; refine ⟨_, rfl, FSt.ofA hst (Imm.le.refl _), ?_⟩
  refine DRW.opE rfl rfl (runs_litF (xs := [.agg #[_, _, _, _], .agg #[_, _, _, _], .agg #[_, _, _, _], .agg #[_, _, _, _], .agg #[_, _, _, _], .agg #[_, _, _, _], .agg #[_, _, _, _]]) Tryz.underlying126 ti123 (by decide) rfl rfl rfl rfl rfl hst (by decide)) ?_; rintro u9 w ⟨Lv9, hstn, hg9⟩; clear hst; have hst := hstn; clear hstn; refine ⟨FSt.ofA hst (Imm.le.refl _), ?_⟩; replace hst := hst.perm (List.perm_middle (l₁ := Lv9)); have hg35 : GrowV u9 (headAV it) Lv9 := hg9; refine DRW.q rfl rfl (fun w' hF => runs_assign rfl) ?_; refine DRW.done ?_; refine AQ.next ?_; refine CW.seq ?_; refine CW.seq ?_; refine CW.region ?_
  refine RW.op1 rfl (runs_fieldAddr0 rfl Tryz.underlying32 rfl ti28 (by decide)) ?_
  refine RW.op1 rfl (runs_fieldAddr0 rfl Tryz.underlying28 rfl ti26 (by decide)) ?_
  refine RW.op1 rfl (runs_load1 sc26 rfl (hst.cell_own (k := 0) rfl rfl)) ?_
  refine RW.op1 rfl (runs_lenL Tryz.underlying26 rfl) ?_; refine RW.op1 rfl (runs_move rfl) ?_; refine RW.done ?_; refine AQ.next ?_; refine CW.block ?_; refine CW.loop (Nat × Imm × Value × Own) (fun x w => I.le x.2.1 ∧ RdH x.2.1 (.slice A it.heads.length c) it.heads ∧ St w0 w x.2.1 ((b1, Obj.cells #[.int .i64 it.id, .int .i64 it.kind, .int .i64 it.group, .string it.name, .string it.method, .string it.url, .slice A it.heads.length c, .string it.body, .int .i64 it.mode, .int .i64 it.creds, .string it.page, .string it.csp, .int .i64 it.refer, .string it.nurl, .string it.nmethod, .string it.nbody, .int .i64 it.hops, .int .i64 it.tries, .int .i64 it.til, .bool it.tainted, .string it.got, .string it.tag, .int .i64 it.state, .int .i64 it.code, .bool it.acked] 32) :: (x.2.2.2 ++ L)) ∧ GrowV x.2.2.1 (headAV it ++ hAV (it.heads.take x.1)) x.2.2.2 ∧ x.1 ≤ it.heads.length) (fun x => [(1, .pointer (some ⟨b1, 0, none⟩)), (4, x.2.2.1), (35, .slice A it.heads.length c), (36, .int .i64 (it.heads.length : Nat)), (37, .int .i64 (x.1 : Int))]) (fun x => it.heads.length - x.1) ⟨(0, _, _, _), ⟨hle, hv, hst, hg35, Nat.zero_le _⟩, ⟨rfl, rfl, rfl, rfl, rfl, trivial⟩⟩ ?_; clear hle hv hst; rintro ⟨k, J, vo, Lo⟩ w ⟨hle, hv, hst, hg, hk⟩; dsimp only at hle hv hst hg hk ⊢; refine CW.seq ?_; refine CW.region ?_; refine RW.op1 rfl (runs_lss rfl rfl) ?_; refine RW.done ?_; refine AQ.next ?_; refine CW.seq ?_; refine CW.cond rfl (fun hc38 => ?_) (fun hc38 => ?_)
  · have hcb38 := hc38; try simp only [decide_eq_true_eq, decide_eq_false_iff_not] at hc38
    have hk1 : k < it.heads.length := by omega
    obtain ⟨⟨n, d⟩, hr⟩ : ∃ r, it.heads[k] = r := ⟨_, rfl⟩
    have hr2 : it.heads[k]? = some (n, d) := by rw [List.getElem?_eq_getElem hk1, hr]
    have htk : hAV (it.heads.take (k + 1)) = hAV (it.heads.take k) ++ [.txt n, .txt d] := by
      unfold hAV; rw [List.take_add_one, hr2, List.flatMap_append]
      rfl
    have hgl : (headAV it ++ hAV (it.heads.take k)).length = 7 + k * 2 := by rw [List.length_append, hAV_len, List.length_take, Nat.min_eq_left (by omega)]; rfl
    refine CW.skip ?_; refine AQ.next ?_; refine CW.seq ?_; refine CW.block ?_; refine CW.seq ?_; refine CW.region ?_; refine RW.op1 rfl (RdL.indexAddr Tryz.underlying26 ti95 (by decide) rfl rfl hv (by omega)) ?_; refine RW.op1 rfl (RdL.loadRow (row := hrow (n, d)) ag95 ti95 rfl hv hst rfl (hrow_at hr2)) ?_; refine RW.opE rfl (runs_alloc ti95 hst) ?_; rintro _ w ⟨b10, rfl, hstn⟩; clear hst; have hst := hstn; clear hstn; obtain ⟨bh, hbh⟩ : ∃ b, b = b10 := ⟨_, rfl⟩; subst hbh
    refine RW.opE0 (runs_storeW ti95 rfl rfl hst (k := 0) rfl rfl rfl (NoFz.zero _) rfl) ?_
    rintro w hstn; clear hst; have hst := hstn; clear hstn; try simp only [List.set_cons_zero, List.set_cons_succ] at hst
    refine RW.done ?_; refine AQ.next ?_; refine CW.draw (FSt w0 J ((bh, .cells #[.string n, .string d] 95) :: (b1, Obj.cells #[.int .i64 it.id, .int .i64 it.kind, .int .i64 it.group, .string it.name, .string it.method, .string it.url, .slice A it.heads.length c, .string it.body, .int .i64 it.mode, .int .i64 it.creds, .string it.page, .string it.csp, .int .i64 it.refer, .string it.nurl, .string it.nmethod, .string it.nbody, .int .i64 it.hops, .int .i64 it.tries, .int .i64 it.til, .bool it.tainted, .string it.got, .string it.tag, .int .i64 it.state, .int .i64 it.code, .bool it.acked] 32) :: L)) (.q 0 (.q 1 (.q 2 (.q 4 (.q 5 (.l 3 (.l 6 (.l 7 (.l 8 (.q 9 .nil)))))))))) follows (by kernel_rfl) ⟨_, Imm.le.refl _, hst.draw.sub (((List.sublist_append_right _ _).cons_cons _).cons_cons _)⟩ ?_; replace hst := hst.draw; refine DRW.q rfl rfl (fun w' hF => runs_move rfl) ?_
    refine DRW.q rfl rfl (fun w' hF => runs_fieldAddr0 rfl Tryz.underlying95 rfl ti9 (by decide)) ?_
    refine DRW.q rfl rfl (FSt.load1_own sc9 rfl (k := 0) rfl rfl) ?_
    refine DRW.q rfl rfl (fun w' hF => runs_fieldAddr0 rfl Tryz.underlying95 rfl ti9 (by decide)) ?_
    refine DRW.q rfl rfl (FSt.load1_own sc9 rfl (k := 0) rfl rfl) ?_
    refine DRW.call rfl rfl call74 rfl rfl (refS_spec hst _) ?_; rintro e w ⟨rfl, hstn⟩; clear hst; have hst := hstn; clear hstn; refine ⟨_, rfl, FSt.of hst (Imm.le.refl _) (by first | exact (((List.sublist_append_right _ _).cons_cons _).cons_cons _) | exact ((((List.sublist_append_right _ _).cons_cons _).cons_cons _).trans (List.sublist_append_right _ _))), ?_⟩; refine DRW.call rfl rfl call74 rfl rfl (refS_spec hst _) ?_; rintro e w ⟨rfl, hstn⟩; clear hst; have hst := hstn; clear hstn; refine ⟨_, rfl, FSt.of hst (Imm.le.refl _) (by first | exact (((List.sublist_append_right _ _).cons_cons _).cons_cons _) | exact ((((List.sublist_append_right _ _).cons_cons _).cons_cons _).trans (List.sublist_append_right _ _))), ?_⟩; refine DRW.opE rfl rfl (runs_litF (xs := [.agg #[_, _, _, _], .agg #[_, _, _, _]]) Tryz.underlying126 ti123 (by decide) rfl rfl rfl rfl rfl hst (by decide)) ?_; rintro u14 w ⟨Lv14, hstn, hg14⟩; clear hst; have hst := hstn; clear hstn; refine ⟨FSt.of hst (Imm.le.refl _) (by first | exact (((List.sublist_append_right _ _).cons_cons _).cons_cons _) | exact ((((List.sublist_append_right _ _).cons_cons _).cons_cons _).trans (List.sublist_append_right _ _))), ?_⟩; obtain ⟨J14, hJ14, hstn, h14⟩ := Grow.freeze hg14 hst; clear hst; have hst := hstn; clear hstn; replace hv := hv.mono hJ14; replace hle := hle.trans hJ14; try simp only [List.nil_append] at h14
    replace h14 : RdL J14 4 u14 2 ([AV.txt n, AV.txt d].flatMap refRow) := h14; have hT := h14; refine DRW.opE rfl rfl (runs_appendRA [_, _] Tryz.underlying126 ti123 rfl (by decide) rfl rfl hst hg hT (by omega) (by unfold maxLen; omega)) ?_; rintro uN w ⟨LvN, hstn, hgN⟩; clear hst; have hst := hstn; clear hstn; refine ⟨FSt.of hst hJ14 (by first | exact (((List.sublist_append_right _ _).cons_cons _).cons_cons _) | exact ((((List.sublist_append_right _ _).cons_cons _).cons_cons _).trans (List.sublist_append_right _ _))), ?_⟩; refine DRW.q rfl rfl (fun w' hF => runs_assign rfl) ?_; refine DRW.done ?_; refine AQ.block_normal ?_; refine AQ.next ?_; refine CW.region ?_; refine RW.op1 rfl (runs_add rfl rfl (by omega)) ?_; refine RW.op1 rfl (runs_move rfl) ?_; refine RW.done ?_
    exact AQ.again (x := (k, J, vo, Lo)) (k + 1, _, uN, LvN) ⟨hle, hv, hst.drop1, by
      dsimp only; unfold GrowV; rw [htk, ← List.append_assoc, List.length_append, List.flatMap_append]
      exact hgN, by dsimp only; omega⟩ ⟨rfl, rfl, rfl, rfl, rfl, trivial⟩ (by dsimp only; omega)
  · have hcb38 := hc38; try simp only [decide_eq_true_eq, decide_eq_false_iff_not] at hc38
    skip
    refine CW.exit ?_; refine AQ.past_exit ?_; refine AQ.past_exit ?_; refine AQ.block_hit ?_; refine AQ.next ?_; refine CW.seq ?_; have hke : it.heads.take k = it.heads := List.take_of_length_le (by omega); rw [hke] at hg
    have hgl : (headAV it ++ hAV it.heads).length = 7 + it.heads.length * 2 := by rw [List.length_append, hAV_len]; rfl
    refine CW.draw (FSt w0 _ ((b1, Obj.cells #[.int .i64 it.id, .int .i64 it.kind, .int .i64 it.group, .string it.name, .string it.method, .string it.url, .slice A it.heads.length c, .string it.body, .int .i64 it.mode, .int .i64 it.creds, .string it.page, .string it.csp, .int .i64 it.refer, .string it.nurl, .string it.nmethod, .string it.nbody, .int .i64 it.hops, .int .i64 it.tries, .int .i64 it.til, .bool it.tainted, .string it.got, .string it.tag, .int .i64 it.state, .int .i64 it.code, .bool it.acked] 32) :: L)) (.q 0 (.q 1 (.q 2 (.q 3 (.q 5 (.q 6 (.q 7 (.q 9 (.q 10 (.q 11 (.q 13 (.q 14 (.q 15 (.q 17 (.q 18 (.q 19 (.q 21 (.q 22 (.q 23 (.l 4 (.l 8 (.l 12 (.l 16 (.l 20 (.l 24 (.l 25 (.l 26 (.q 27 .nil)))))))))))))))))))))))))))) follows (by kernel_rfl) ⟨_, Imm.le.refl _, hst.draw.sub ((List.sublist_append_right _ _).cons_cons _)⟩ ?_; replace hst := hst.draw; refine DRW.q rfl rfl (fun w' hF => runs_move rfl) ?_
    refine DRW.q rfl rfl (fun w' hF => runs_fieldAddr0 rfl Tryz.underlying32 rfl ti28 (by decide)) ?_
    refine DRW.q rfl rfl (fun w' hF => runs_fieldAddr0 rfl Tryz.underlying28 rfl ti9 (by decide)) ?_
    refine DRW.q rfl rfl (FSt.load1_own sc9 rfl (k := 0) rfl rfl) ?_
    refine DRW.q rfl rfl (fun w' hF => runs_fieldAddr0 rfl Tryz.underlying32 rfl ti28 (by decide)) ?_
    refine DRW.q rfl rfl (fun w' hF => runs_fieldAddr0 rfl Tryz.underlying28 rfl ti3 (by decide)) ?_
    refine DRW.q rfl rfl (FSt.load1_own sc3 rfl (k := 0) rfl rfl) ?_
    refine DRW.q rfl rfl (fun w' hF => runs_fieldAddr0 rfl Tryz.underlying32 rfl ti28 (by decide)) ?_
    refine DRW.q rfl rfl (fun w' hF => runs_fieldAddr0 rfl Tryz.underlying28 rfl ti3 (by decide)) ?_
    refine DRW.q rfl rfl (FSt.load1_own sc3 rfl (k := 0) rfl rfl) ?_
    refine DRW.q rfl rfl (fun w' hF => runs_fieldAddr0 rfl Tryz.underlying32 rfl ti30 (by decide)) ?_
    refine DRW.q rfl rfl (fun w' hF => runs_fieldAddr0 rfl Tryz.underlying30 rfl ti9 (by decide)) ?_
    refine DRW.q rfl rfl (FSt.load1_own sc9 rfl (k := 0) rfl rfl) ?_
    refine DRW.q rfl rfl (fun w' hF => runs_fieldAddr0 rfl Tryz.underlying32 rfl ti30 (by decide)) ?_
    refine DRW.q rfl rfl (fun w' hF => runs_fieldAddr0 rfl Tryz.underlying30 rfl ti9 (by decide)) ?_
    refine DRW.q rfl rfl (FSt.load1_own sc9 rfl (k := 0) rfl rfl) ?_
    refine DRW.q rfl rfl (fun w' hF => runs_fieldAddr0 rfl Tryz.underlying32 rfl ti30 (by decide)) ?_
    refine DRW.q rfl rfl (fun w' hF => runs_fieldAddr0 rfl Tryz.underlying30 rfl ti3 (by decide)) ?_
    refine DRW.q rfl rfl (FSt.load1_own sc3 rfl (k := 0) rfl rfl) ?_
    refine DRW.call rfl rfl call74 rfl rfl (refS_spec hst _) ?_; rintro e w ⟨rfl, hstn⟩; clear hst; have hst := hstn; clear hstn; refine ⟨_, rfl, FSt.of hst (Imm.le.refl _) (by first | exact ((List.sublist_append_right _ _).cons_cons _) | exact (((List.sublist_append_right _ _).cons_cons _).trans (List.sublist_append_right _ _))), ?_⟩; refine DRW.call rfl rfl call73 rfl rfl (refI_spec hst _) ?_; rintro e w ⟨rfl, hstn⟩; clear hst; have hst := hstn; clear hstn; refine ⟨_, rfl, FSt.of hst (Imm.le.refl _) (by first | exact ((List.sublist_append_right _ _).cons_cons _) | exact (((List.sublist_append_right _ _).cons_cons _).trans (List.sublist_append_right _ _))), ?_⟩; refine DRW.call rfl rfl call73 rfl rfl (refI_spec hst _) ?_; rintro e w ⟨rfl, hstn⟩; clear hst; have hst := hstn; clear hstn; refine ⟨_, rfl, FSt.of hst (Imm.le.refl _) (by first | exact ((List.sublist_append_right _ _).cons_cons _) | exact (((List.sublist_append_right _ _).cons_cons _).trans (List.sublist_append_right _ _))), ?_⟩; refine DRW.call rfl rfl call74 rfl rfl (refS_spec hst _) ?_; rintro e w ⟨rfl, hstn⟩; clear hst; have hst := hstn; clear hstn; refine ⟨_, rfl, FSt.of hst (Imm.le.refl _) (by first | exact ((List.sublist_append_right _ _).cons_cons _) | exact (((List.sublist_append_right _ _).cons_cons _).trans (List.sublist_append_right _ _))), ?_⟩; refine DRW.call rfl rfl call74 rfl rfl (refS_spec hst _) ?_; rintro e w ⟨rfl, hstn⟩; clear hst; have hst := hstn; clear hstn
    refine ⟨_, rfl, FSt.of hst (Imm.le.refl _) (by first | exact ((List.sublist_append_right _ _).cons_cons _) | exact (((List.sublist_append_right _ _).cons_cons _).trans (List.sublist_append_right _ _))), ?_⟩; refine DRW.call rfl rfl call73 rfl rfl (refI_spec hst _) ?_; rintro e w ⟨rfl, hstn⟩; clear hst; have hst := hstn; clear hstn; refine ⟨_, rfl, FSt.of hst (Imm.le.refl _) (by first | exact ((List.sublist_append_right _ _).cons_cons _) | exact (((List.sublist_append_right _ _).cons_cons _).trans (List.sublist_append_right _ _))), ?_⟩; refine DRW.opE rfl rfl (runs_litF (xs := [.agg #[_, _, _, _], .agg #[_, _, _, _], .agg #[_, _, _, _], .agg #[_, _, _, _], .agg #[_, _, _, _], .agg #[_, _, _, _]]) Tryz.underlying126 ti123 (by decide) rfl rfl rfl rfl rfl hst (by decide)) ?_; rintro u22 w ⟨Lv22, hstn, hg22⟩; clear hst; have hst := hstn; clear hstn; refine ⟨FSt.of hst (Imm.le.refl _) (by first | exact ((List.sublist_append_right _ _).cons_cons _) | exact (((List.sublist_append_right _ _).cons_cons _).trans (List.sublist_append_right _ _))), ?_⟩; obtain ⟨J22, hJ22, hstn, h22⟩ := Grow.freeze hg22 hst; clear hst; have hst := hstn; clear hstn; replace hv := hv.mono hJ22; replace hle := hle.trans hJ22; try simp only [List.nil_append] at h22
    replace h22 : RdL J22 4 u22 6 (([AV.txt it.body, .num it.mode, .num it.creds, .txt it.page, .txt it.csp, .num it.refer]).flatMap refRow) := h22; have hT76 := h22; refine DRW.opE rfl rfl (runs_appendRA [_] Tryz.underlying126 ti123 rfl (by decide) rfl rfl hst hg hT76 (by have := hgl; omega) (by have := hgl; unfold maxLen; omega)) ?_; rintro uN77 w ⟨LvN77, hstn, hgN77⟩; clear hst; have hst := hstn; clear hstn; refine ⟨FSt.of hst hJ22 (by first | exact ((List.sublist_append_right _ _).cons_cons _) | exact (((List.sublist_append_right _ _).cons_cons _).trans (List.sublist_append_right _ _))), ?_⟩; refine DRW.q rfl rfl (fun w' hF => runs_assign rfl) ?_; refine DRW.done ?_; refine AQ.next ?_; refine CW.seq ?_
    refine CW.draw (FSt w0 _ ((b1, Obj.cells #[.int .i64 it.id, .int .i64 it.kind, .int .i64 it.group, .string it.name, .string it.method, .string it.url, .slice A it.heads.length c, .string it.body, .int .i64 it.mode, .int .i64 it.creds, .string it.page, .string it.csp, .int .i64 it.refer, .string it.nurl, .string it.nmethod, .string it.nbody, .int .i64 it.hops, .int .i64 it.tries, .int .i64 it.til, .bool it.tainted, .string it.got, .string it.tag, .int .i64 it.state, .int .i64 it.code, .bool it.acked] 32) :: L)) (.q 0 (.q 1 (.q 2 (.q 4 (.q 5 (.q 7 (.q 8 (.q 10 (.q 11 (.q 13 (.q 14 (.q 16 (.q 17 (.q 19 (.q 20 (.l 3 (.l 6 (.l 9 (.l 12 (.l 15 (.l 18 (.l 21 (.l 22 (.l 23 (.q 24 .nil))))))))))))))))))))))))) follows (by kernel_rfl) ⟨_, Imm.le.refl _, hst.draw.sub ((List.sublist_append_right _ _).cons_cons _)⟩ ?_; replace hst := hst.draw; refine DRW.q rfl rfl (fun w' hF => runs_move rfl) ?_
    refine DRW.q rfl rfl (fun w' hF => runs_fieldAddr0 rfl Tryz.underlying32 rfl ti9 (by decide)) ?_
    refine DRW.q rfl rfl (FSt.load1_own sc9 rfl (k := 0) rfl rfl) ?_
    refine DRW.q rfl rfl (fun w' hF => runs_fieldAddr0 rfl Tryz.underlying32 rfl ti9 (by decide)) ?_
    refine DRW.q rfl rfl (FSt.load1_own sc9 rfl (k := 0) rfl rfl) ?_
    refine DRW.q rfl rfl (fun w' hF => runs_fieldAddr0 rfl Tryz.underlying32 rfl ti9 (by decide)) ?_
    refine DRW.q rfl rfl (FSt.load1_own sc9 rfl (k := 0) rfl rfl) ?_
    refine DRW.q rfl rfl (fun w' hF => runs_fieldAddr0 rfl Tryz.underlying32 rfl ti3 (by decide)) ?_
    refine DRW.q rfl rfl (FSt.load1_own sc3 rfl (k := 0) rfl rfl) ?_
    refine DRW.q rfl rfl (fun w' hF => runs_fieldAddr0 rfl Tryz.underlying32 rfl ti3 (by decide)) ?_
    refine DRW.q rfl rfl (FSt.load1_own sc3 rfl (k := 0) rfl rfl) ?_
    refine DRW.q rfl rfl (fun w' hF => runs_fieldAddr0 rfl Tryz.underlying32 rfl ti3 (by decide)) ?_
    refine DRW.q rfl rfl (FSt.load1_own sc3 rfl (k := 0) rfl rfl) ?_
    refine DRW.q rfl rfl (fun w' hF => runs_fieldAddr0 rfl Tryz.underlying32 rfl ti4 (by decide)) ?_
    refine DRW.q rfl rfl (FSt.load1_own sc4 rfl (k := 0) rfl rfl) ?_
    refine DRW.call rfl rfl call74 rfl rfl (refS_spec hst _) ?_; rintro e w ⟨rfl, hstn⟩; clear hst; have hst := hstn; clear hstn; refine ⟨_, rfl, FSt.of hst (Imm.le.refl _) (by first | exact ((List.sublist_append_right _ _).cons_cons _) | exact (((List.sublist_append_right _ _).cons_cons _).trans (List.sublist_append_right _ _))), ?_⟩; refine DRW.call rfl rfl call74 rfl rfl (refS_spec hst _) ?_; rintro e w ⟨rfl, hstn⟩; clear hst; have hst := hstn; clear hstn; refine ⟨_, rfl, FSt.of hst (Imm.le.refl _) (by first | exact ((List.sublist_append_right _ _).cons_cons _) | exact (((List.sublist_append_right _ _).cons_cons _).trans (List.sublist_append_right _ _))), ?_⟩; refine DRW.call rfl rfl call74 rfl rfl (refS_spec hst _) ?_; rintro e w ⟨rfl, hstn⟩; clear hst; have hst := hstn; clear hstn; refine ⟨_, rfl, FSt.of hst (Imm.le.refl _) (by first | exact ((List.sublist_append_right _ _).cons_cons _) | exact (((List.sublist_append_right _ _).cons_cons _).trans (List.sublist_append_right _ _))), ?_⟩; refine DRW.call rfl rfl call73 rfl rfl (refI_spec hst _) ?_; rintro e w ⟨rfl, hstn⟩; clear hst; have hst := hstn; clear hstn; refine ⟨_, rfl, FSt.of hst (Imm.le.refl _) (by first | exact ((List.sublist_append_right _ _).cons_cons _) | exact (((List.sublist_append_right _ _).cons_cons _).trans (List.sublist_append_right _ _))), ?_⟩; refine DRW.call rfl rfl call73 rfl rfl (refI_spec hst _) ?_; rintro e w ⟨rfl, hstn⟩; clear hst; have hst := hstn; clear hstn
    refine ⟨_, rfl, FSt.of hst (Imm.le.refl _) (by first | exact ((List.sublist_append_right _ _).cons_cons _) | exact (((List.sublist_append_right _ _).cons_cons _).trans (List.sublist_append_right _ _))), ?_⟩; refine DRW.call rfl rfl call73 rfl rfl (refI_spec hst _) ?_; rintro e w ⟨rfl, hstn⟩; clear hst; have hst := hstn; clear hstn; refine ⟨_, rfl, FSt.of hst (Imm.le.refl _) (by first | exact ((List.sublist_append_right _ _).cons_cons _) | exact (((List.sublist_append_right _ _).cons_cons _).trans (List.sublist_append_right _ _))), ?_⟩; refine DRW.call rfl rfl call75 rfl rfl (refB_spec hst _) ?_; rintro e w ⟨rfl, hstn⟩; clear hst; have hst := hstn; clear hstn; refine ⟨_, rfl, FSt.of hst (Imm.le.refl _) (by first | exact ((List.sublist_append_right _ _).cons_cons _) | exact (((List.sublist_append_right _ _).cons_cons _).trans (List.sublist_append_right _ _))), ?_⟩; refine DRW.opE rfl rfl (runs_litF (xs := [.agg #[_, _, _, _], .agg #[_, _, _, _], .agg #[_, _, _, _], .agg #[_, _, _, _], .agg #[_, _, _, _], .agg #[_, _, _, _], .agg #[_, _, _, _]]) Tryz.underlying126 ti123 (by decide) rfl rfl rfl rfl rfl hst (by decide)) ?_; rintro u31 w ⟨Lv31, hstn, hg31⟩; clear hst; have hst := hstn; clear hstn; refine ⟨FSt.of hst (Imm.le.refl _) (by first | exact ((List.sublist_append_right _ _).cons_cons _) | exact (((List.sublist_append_right _ _).cons_cons _).trans (List.sublist_append_right _ _))), ?_⟩; obtain ⟨J31, hJ31, hstn, h31⟩ := Grow.freeze hg31 hst; clear hst; have hst := hstn
    clear hstn; replace hv := hv.mono hJ31; replace h22 := h22.mono hJ31; replace hT76 := hT76.mono hJ31; replace hle := hle.trans hJ31; try simp only [List.nil_append] at h31
    replace h31 : RdL J31 4 u31 7 (([AV.txt it.nurl, .txt it.nmethod, .txt it.nbody, .num it.hops, .num it.tries, .num it.til, .flg it.tainted]).flatMap refRow) := h31; have hT100 := h31; refine DRW.opE rfl rfl (runs_appendRA [_] Tryz.underlying126 ti123 rfl (by decide) rfl rfl hst hgN77 hT100 (by have := hgl; omega) (by have := hgl; unfold maxLen; omega)) ?_; rintro uN101 w ⟨LvN101, hstn, hgN101⟩; clear hst; have hst := hstn; clear hstn; refine ⟨FSt.of hst hJ31 (by first | exact ((List.sublist_append_right _ _).cons_cons _) | exact (((List.sublist_append_right _ _).cons_cons _).trans (List.sublist_append_right _ _))), ?_⟩; refine DRW.q rfl rfl (fun w' hF => runs_assign rfl) ?_; refine DRW.done ?_; refine AQ.next ?_; refine CW.seq ?_
    refine CW.draw (FSt w0 _ ((b1, Obj.cells #[.int .i64 it.id, .int .i64 it.kind, .int .i64 it.group, .string it.name, .string it.method, .string it.url, .slice A it.heads.length c, .string it.body, .int .i64 it.mode, .int .i64 it.creds, .string it.page, .string it.csp, .int .i64 it.refer, .string it.nurl, .string it.nmethod, .string it.nbody, .int .i64 it.hops, .int .i64 it.tries, .int .i64 it.til, .bool it.tainted, .string it.got, .string it.tag, .int .i64 it.state, .int .i64 it.code, .bool it.acked] 32) :: L)) (.q 0 (.q 1 (.q 2 (.q 4 (.q 5 (.q 7 (.q 8 (.q 10 (.q 11 (.q 13 (.q 14 (.l 3 (.l 6 (.l 9 (.l 12 (.l 15 (.l 16 (.l 17 (.q 18 .nil))))))))))))))))))) follows (by kernel_rfl) ⟨_, Imm.le.refl _, hst.draw.sub ((List.sublist_append_right _ _).cons_cons _)⟩ ?_; replace hst := hst.draw; refine DRW.q rfl rfl (fun w' hF => runs_move rfl) ?_
    refine DRW.q rfl rfl (fun w' hF => runs_fieldAddr0 rfl Tryz.underlying32 rfl ti9 (by decide)) ?_
    refine DRW.q rfl rfl (FSt.load1_own sc9 rfl (k := 0) rfl rfl) ?_
    refine DRW.q rfl rfl (fun w' hF => runs_fieldAddr0 rfl Tryz.underlying32 rfl ti9 (by decide)) ?_
    refine DRW.q rfl rfl (FSt.load1_own sc9 rfl (k := 0) rfl rfl) ?_
    refine DRW.q rfl rfl (fun w' hF => runs_fieldAddr0 rfl Tryz.underlying32 rfl ti3 (by decide)) ?_
    refine DRW.q rfl rfl (FSt.load1_own sc3 rfl (k := 0) rfl rfl) ?_
    refine DRW.q rfl rfl (fun w' hF => runs_fieldAddr0 rfl Tryz.underlying32 rfl ti3 (by decide)) ?_
    refine DRW.q rfl rfl (FSt.load1_own sc3 rfl (k := 0) rfl rfl) ?_
    refine DRW.q rfl rfl (fun w' hF => runs_fieldAddr0 rfl Tryz.underlying32 rfl ti4 (by decide)) ?_
    refine DRW.q rfl rfl (FSt.load1_own sc4 rfl (k := 0) rfl rfl) ?_
    refine DRW.call rfl rfl call74 rfl rfl (refS_spec hst _) ?_; rintro e w ⟨rfl, hstn⟩; clear hst; have hst := hstn; clear hstn; refine ⟨_, rfl, FSt.of hst (Imm.le.refl _) (by first | exact ((List.sublist_append_right _ _).cons_cons _) | exact (((List.sublist_append_right _ _).cons_cons _).trans (List.sublist_append_right _ _))), ?_⟩; refine DRW.call rfl rfl call74 rfl rfl (refS_spec hst _) ?_; rintro e w ⟨rfl, hstn⟩; clear hst; have hst := hstn; clear hstn; refine ⟨_, rfl, FSt.of hst (Imm.le.refl _) (by first | exact ((List.sublist_append_right _ _).cons_cons _) | exact (((List.sublist_append_right _ _).cons_cons _).trans (List.sublist_append_right _ _))), ?_⟩; refine DRW.call rfl rfl call73 rfl rfl (refI_spec hst _) ?_; rintro e w ⟨rfl, hstn⟩; clear hst; have hst := hstn; clear hstn; refine ⟨_, rfl, FSt.of hst (Imm.le.refl _) (by first | exact ((List.sublist_append_right _ _).cons_cons _) | exact (((List.sublist_append_right _ _).cons_cons _).trans (List.sublist_append_right _ _))), ?_⟩; refine DRW.call rfl rfl call73 rfl rfl (refI_spec hst _) ?_; rintro e w ⟨rfl, hstn⟩; clear hst; have hst := hstn; clear hstn; refine ⟨_, rfl, FSt.of hst (Imm.le.refl _) (by first | exact ((List.sublist_append_right _ _).cons_cons _) | exact (((List.sublist_append_right _ _).cons_cons _).trans (List.sublist_append_right _ _))), ?_⟩; refine DRW.call rfl rfl call75 rfl rfl (refB_spec hst _) ?_; rintro e w ⟨rfl, hstn⟩; clear hst; have hst := hstn; clear hstn
    refine ⟨_, rfl, FSt.of hst (Imm.le.refl _) (by first | exact ((List.sublist_append_right _ _).cons_cons _) | exact (((List.sublist_append_right _ _).cons_cons _).trans (List.sublist_append_right _ _))), ?_⟩; refine DRW.opE rfl rfl (runs_litF (xs := [.agg #[_, _, _, _], .agg #[_, _, _, _], .agg #[_, _, _, _], .agg #[_, _, _, _], .agg #[_, _, _, _]]) Tryz.underlying126 ti123 (by decide) rfl rfl rfl rfl rfl hst (by decide)) ?_; rintro u38 w ⟨Lv38, hstn, hg38⟩; clear hst; have hst := hstn; clear hstn; refine ⟨FSt.of hst (Imm.le.refl _) (by first | exact ((List.sublist_append_right _ _).cons_cons _) | exact (((List.sublist_append_right _ _).cons_cons _).trans (List.sublist_append_right _ _))), ?_⟩; obtain ⟨J38, hJ38, hstn, h38⟩ := Grow.freeze hg38 hst; clear hst; have hst := hstn; clear hstn; replace hv := hv.mono hJ38; replace h22 := h22.mono hJ38; replace hT76 := hT76.mono hJ38; replace h31 := h31.mono hJ38; replace hT100 := hT100.mono hJ38; replace hle := hle.trans hJ38; try simp only [List.nil_append] at h38
    replace h38 : RdL J38 4 u38 5 (([AV.txt it.got, .txt it.tag, .num it.state, .num it.code, .flg it.acked]).flatMap refRow) := h38; have hT118 := h38; refine DRW.opE rfl rfl (runs_appendRA [_] Tryz.underlying126 ti123 rfl (by decide) rfl rfl hst hgN101 hT118 (by have := hgl; omega) (by have := hgl; unfold maxLen; omega)) ?_; rintro uN119 w ⟨LvN119, hstn, hgN119⟩; clear hst; have hst := hstn; clear hstn; refine ⟨FSt.of hst hJ38 (by first | exact ((List.sublist_append_right _ _).cons_cons _) | exact (((List.sublist_append_right _ _).cons_cons _).trans (List.sublist_append_right _ _))), ?_⟩; refine DRW.q rfl rfl (fun w' hF => runs_assign rfl) ?_; refine DRW.done ?_; refine AQ.next ?_; refine CW.seq ?_; refine CW.region ?_; obtain ⟨J9, hJ9, hstn, hall⟩ := hgN119.freeze (hst.perm (List.perm_middle (l₁ := LvN119)).symm); clear hst; have hst := hstn; clear hstn; replace hle := hle.trans hJ9; replace hv := hv.mono hJ9
    have hall2 : RdV J9 uN119 (itAV it) := by
      have e : itAV it = headAV it ++ hAV it.heads ++ [AV.txt it.body, .num it.mode, .num it.creds, .txt it.page, .txt it.csp, .num it.refer] ++ [AV.txt it.nurl, .txt it.nmethod, .txt it.nbody, .num it.hops, .num it.tries, .num it.til, .flg it.tainted] ++ [AV.txt it.got, .txt it.tag, .num it.state, .num it.code, .flg it.acked] := by unfold itAV tailAV; simp
      unfold RdV; rw [e]; rw [List.length_append, List.length_append, List.length_append, List.flatMap_append, List.flatMap_append, List.flatMap_append]; exact hall
    refine RW.op1 rfl (runs_move rfl) ?_; refine RW.call rfl call76 rfl rfl (refenc_spec hst hall2 hgood (by rw [itAV_len]; omega)) ?_; rintro e w ⟨J121, v121, hJ121, rfl, hstn, hv121⟩; clear hst; have hst := hstn; clear hstn; replace hv := hv.mono hJ121; replace hle := hle.trans hJ121; refine ⟨_, rfl, ?_⟩; refine RW.op1 rfl (runs_extract rfl rfl) ?_; refine RW.op1 rfl (runs_extract rfl rfl) ?_; refine RW.op1 rfl (runs_assign rfl) ?_; refine RW.op1 rfl (runs_assign rfl) ?_; refine RW.done ?_; refine AQ.next ?_; refine CW.ret ?_; refine AQ.ret2 rfl rfl rfl ?_; exact ⟨_, v121, hle, rfl, hst.drop1, hv121⟩
end Go.Proofs.YtlmmpcdjkpibcaaGreatX
namespace Go.Proofs.YtlmmpcdjkpibcaaGreatX
set_option linter.unusedVariables false
set_option linter.unusedSimpArgs false
open Go Go.RowKit
variable {w0 w : World} {I : Imm} {L : Own} {P : Program} {l : Env} {ty : TypeId}
def GrowR (I : Imm) (e : TypeId) (v : Value) (bss : List (List UInt8)) (Lv : Own) : Prop :=
  ∃ vs : List Value, Grow e 1 v vs.length vs Lv ∧ vs.length = bss.length ∧ ∀ (i : Nat) (u : Value) (b : List UInt8), vs[i]? = some u → bss[i]? = some b → RdB I u b
theorem GrowR.mono {I' : Imm} {e : TypeId} {v : Value} {bss : List (List UInt8)} {Lv : Own} (h : GrowR I e v bss Lv) (hI : I.le I') : GrowR I' e v bss Lv :=
  let ⟨vs, h1, h2, h3⟩ := h
  ⟨vs, h1, h2, fun i u b h4 h5 => RdL.mono hI (h3 i u b h4 h5)⟩
theorem GrowR.nil (e : TypeId) : GrowR I e (.slice none 0 0) [] [] := ⟨[], Grow.nil e 1, rfl, fun i u b h => by simp at h⟩
theorem GrowR.freeze {e : TypeId} {v : Value} {bss : List (List UInt8)} {Lv : Own} (hg : GrowR I e v bss Lv) (h : St w0 w I (Lv ++ L)) : ∃ I' vs, I.le I' ∧ St w0 w I' L ∧ RdR I' v vs bss := by
  obtain ⟨vs, h1, h2, h3⟩ := hg; obtain ⟨I', h4, h5, h6⟩ := h1.freeze h; exact ⟨I', vs, h4, h5, h6, h2, fun i u b h7 h8 => RdL.mono h4 (h3 i u b h7 h8)⟩
theorem rows_snoc {vs : List Value} {bss : List (List UInt8)} {c : Value} {b : List UInt8} (hl : vs.length = bss.length) (h : ∀ (i : Nat) (u : Value) (b : List UInt8), vs[i]? = some u → bss[i]? = some b → RdB I u b) (hc : RdB I c b) :
    ∀ (i : Nat) (u : Value) (d : List UInt8), (vs ++ [c])[i]? = some u → (bss ++ [b])[i]? = some d → RdB I u d := by
  intro i u d h1 h2
  by_cases hi : i < vs.length
  · rw [List.getElem?_append_left hi] at h1; rw [List.getElem?_append_left (by omega)] at h2; exact h i u d h1 h2
  · rw [List.getElem?_append_right (by omega)] at h1; rw [List.getElem?_append_right (by omega)] at h2; have h3 := (List.getElem?_eq_some_iff.1 h1).1
    have h4 : i - vs.length = 0 := by simp at h3; omega
    rw [h4] at h1; rw [show i - bss.length = 0 by omega] at h2
    simp at h1 h2
    subst h1 h2; exact hc
theorem runs_appendRow {t e : TypeId} {z : Value} {bytes : Nat} (ht : P.underlying t = some (.slice e)) (he : TI P e z 1 bytes) (hz : z.cells.size = 1) {x y : Operand} {v u c : Value} {bss : List (List UInt8)} {b : List UInt8} {Lv : Own} (hx : ev l x = some v) (hy : ev l y = some u)
    (hst : St w0 w I (Lv ++ L)) (hg : GrowR I e v bss Lv) (hr : RdL I 1 u 1 [c]) (hc : RdB I c b) (hb : (bss.length + 1) * bytes ≤ 140737488355328) (hmax : bss.length + 1 ≤ maxLen) :
    ∃ v' w', Runs P (.call ⟨.builtin .append, #[x, y], #[t, t]⟩) ty l w (.value v') w' ∧ ∃ Lv', St w0 w' I (Lv' ++ L) ∧ GrowR I e v' (bss ++ [b]) Lv' := by
  obtain ⟨vs, h1, h2, h3⟩ := hg; obtain ⟨v', w', h4, Lv', h5, h6⟩ := runs_appendR (ty := ty) ht he hz (by decide) hx hy hst h1 hr (by rw [h2]; exact hb) (by rw [h2]; exact hmax); exact ⟨v', w', h4, Lv', h5, vs ++ [c], by simpa using h6, by simp [h2], rows_snoc h2 h3 hc⟩
end Go.Proofs.YtlmmpcdjkpibcaaGreatX
namespace Go.Proofs.YtlmmpcdjkpibcaaGreatX
set_option linter.unusedVariables false
set_option linter.unusedSimpArgs false
open Go Go.RowKit Go.Proofs
theorem GrowR.one {I : Imm} {e : TypeId} {v u : Value} {b : List UInt8} {Lv : Own} (h : Grow e 1 v 1 [u] Lv) (hb : RdB I u b) : GrowR I e v [b] Lv := by
  refine ⟨[u], h, rfl, fun i x d h1 h2 => ?_⟩
  have hi : i = 0 := by have := (List.getElem?_eq_some_iff.1 h1).1; simp at this; exact this
  subst hi
  cases h1
  cases h2
  exact hb
theorem take_one {α : Type} {l : List α} {k : Nat} {a : α} (h : l[k]? = some a) : l.take (k + 1) = l.take k ++ [a] := by rw [List.take_add_one, h]; rfl
set_option maxRecDepth 100000 in
set_option maxHeartbeats 4000000 in
theorem records_own {w0 w : World} {I : Imm} {L : Own} {rows : List TRow} {next : Int} {bT : Nat} {Lt : Own} (hd : TbO I rows next bT Lt) (hst : St w0 w I (Lt ++ L)) (hz : rows.length ≤ 1000000) (hrow : ∀ r ∈ rows, ItOk r.2.1 ∧ encOk (itAV r.2.1) = true) :
    Calls Tryz.prog 14 #[.pointer (some ⟨bT, 0, none⟩)] w fun e w' => ∃ I' v' Lo, I.le I' ∧ e = .returned (.tuple #[v', .int .i64 0]) ∧ St w0 w' I' (Lo ++ (Lt ++ L)) ∧ GrowR I' 37 v' (recsA (absT rows) next) Lo := by
  have hd0 := hd; obtain ⟨bM, oM, rfl, hm, hnd, hrows, hnx⟩ := hd0; refine enter Tryz.func14 rfl (N := 50) rfl rfl ?_
  simp only [List.zipIdx_cons, List.zipIdx_nil, List.map_cons, List.map_nil, Nat.zero_add, Nat.reduceAdd]
  have hle := Imm.le.refl I; refine CW.seq ?_; refine CW.region ?_; refine RW.op1 rfl (runs_assign rfl) ?_; refine RW.op1 rfl (runs_assign rfl) ?_; refine RW.done ?_; refine AQ.next ?_; refine CW.seq ?_; refine CW.region ?_; refine RW.op1 rfl (runs_makeIface con9 rfl) ?_; refine RW.op1 rfl (runs_move rfl) ?_; refine RW.op1 rfl (runs_nilCheck rfl) ?_
  refine RW.op1 rfl (runs_fieldAddr0 rfl Tryz.underlying53 rfl ti3 (by decide)) ?_
  refine RW.op1 rfl (runs_load1 sc3 rfl (hst.cell_own (k := 0) rfl rfl)) ?_
  refine RW.op1 rfl (runs_makeIface con3 rfl) ?_; refine RW.opE rfl (runs_lit1R (xs := ([.txt nextS, .num next] : List AV).map AV.v) Tryz.underlying68 ti20 (by decide) rfl rfl rfl (by simp [AV.v, Value.oneCell']) hst) ?_; rintro u1 w ⟨I1, hI1, hstn, h1⟩; clear hst; have hst := hstn; clear hstn; replace hd := hd.mono hI1; replace hle := hle.trans hI1; have hA18 : RdA _ u1 [.txt nextS, .num next] := h1; refine RW.call rfl call29 rfl rfl (enc_spec hst hA18 (two_good (by decide) hnx) (show 2 ≤ 100000000000 by decide)) ?_; rintro e w ⟨J19, v19, hJ19, rfl, hstn, hv19⟩; clear hst; have hst := hstn; clear hstn; rw [two_ok (by decide) hnx] at hv19 ⊢; rw [if_pos rfl] at hv19; replace hd := hd.mono hJ19; replace h1 := h1.mono hJ19; replace hA18 := hA18.mono hJ19; replace hle := hle.trans hJ19; refine ⟨_, rfl, ?_⟩; refine RW.op1 rfl (runs_move rfl) ?_; refine RW.op1 rfl (runs_extract rfl rfl) ?_; refine RW.op1 rfl (runs_extract rfl rfl) ?_; refine RW.op1 rfl (runs_assign rfl) ?_; refine RW.op1 rfl (runs_assign rfl) ?_; refine RW.done ?_; refine AQ.next ?_; refine CW.seq ?_; refine CW.region ?_; refine RW.op1 rfl (runs_move rfl) ?_; refine RW.opE rfl (runs_lit1 (xs := [v19]) Tryz.underlying45 ti37 (by decide) rfl rfl rfl (by intro u hu; rw [List.mem_singleton.1 hu]; exact RdL.one hv19) hst) ?_; rintro u3 w ⟨Lv3, hstn, hg3⟩; clear hst; have hst := hstn; clear hstn
  replace hst := hst.perm (permAB (X := Lv3) (Y := [(bT, Obj.cells #[Value.map (some bM), Value.int IntKind.i64 next] 53), (bM, oM)])); have hgr := GrowR.one hg3 hv19; obtain ⟨vo, hvo⟩ : ∃ v, v = u3 := ⟨_, rfl⟩; obtain ⟨Lo, hLo⟩ : ∃ v, v = Lv3 := ⟨_, rfl⟩; subst hvo hLo; refine RW.op1 rfl (runs_assign rfl) ?_; refine RW.done ?_; refine AQ.next ?_; refine CW.seq ?_; refine CW.seq ?_; refine CW.region ?_; refine RW.op1 rfl (runs_move rfl) ?_; refine RW.call rfl call34 rfl rfl (ids_spec (L := Lo ++ L) hd hst hz) ?_; rintro e w ⟨J25, v25, hJ25, rfl, hstn, hv25⟩; clear hst; have hst := hstn; clear hstn; replace hgr := hgr.mono hJ25; replace hd := hd.mono hJ25; replace h1 := h1.mono hJ25; replace hA18 := hA18.mono hJ25; replace hv19 := hv19.mono hJ25; replace hle := hle.trans hJ25; refine ⟨_, rfl, ?_⟩; refine RW.op1 rfl (RdL.len Tryz.underlying22 rfl hv25) ?_; refine RW.op1 rfl (runs_move rfl) ?_; refine RW.done ?_; refine AQ.next ?_; refine CW.block ?_
  refine CW.loop (Nat × Imm × Value × Own) (fun x w => I.le x.2.1 ∧ TbO x.2.1 rows next bT [(bT, Obj.cells #[Value.map (some bM), Value.int IntKind.i64 next] 53), (bM, oM)] ∧ RdI x.2.1 v25 (keysUp rows) ∧ St w0 w x.2.1 ([(bT, Obj.cells #[Value.map (some bM), Value.int IntKind.i64 next] 53), (bM, oM)] ++ (x.2.2.2 ++ L)) ∧ GrowR x.2.1 37 x.2.2.1 ((recsA (absT rows) next).take (x.1 + 1)) x.2.2.2 ∧ x.1 ≤ (keysUp rows).length) (fun x => [(0, .pointer (some ⟨bT, 0, none⟩)), (6, x.2.2.1), (25, v25), (26, .int .i64 ((keysUp rows).length : Nat)), (27, .int .i64 (x.1 : Int))]) (fun x => (keysUp rows).length - x.1) ⟨(0, _, vo, Lo), ⟨hle, hd, hv25, hst, hgr, Nat.zero_le _⟩, ⟨rfl, rfl, rfl, rfl, rfl, trivial⟩⟩ ?_; clear hle hd hv25 hst hgr; rintro ⟨k, J, vo, Lo⟩ w ⟨hle, hd, hv25, hstn, hgr, hk⟩; dsimp only at hle hd hv25 hstn hgr hk ⊢; have hst := hstn; clear hstn; refine CW.seq ?_; refine CW.region ?_; refine RW.op1 rfl (runs_lss rfl rfl) ?_; refine RW.done ?_; refine AQ.next ?_; refine CW.seq ?_; refine CW.cond rfl (fun hc28 => ?_) (fun hc28 => ?_)
  · have hcb28 := hc28; try simp only [decide_eq_true_eq, decide_eq_false_iff_not] at hc28
    have hk1 : k < (keysUp rows).length := by omega
    obtain ⟨kk, hkk⟩ : ∃ kk, (keysUp rows)[k]? = some kk := ⟨_, List.getElem?_eq_getElem hk1⟩
    have hki : iat (keysUp rows) (k : Int) = kk := by unfold iat; rw [Int.toNat_natCast, List.getD_eq_getElem?_getD, hkk]; rfl
    have hkm := (keysUp_mem rows kk).1 (List.mem_of_getElem? hkk)
    obtain ⟨⟨it, vh⟩, hit⟩ : ∃ p, pget rows kk = some p := by
      cases h : pget rows kk with
      | none => exact absurd hkm (pget_none.1 h)
      | some p => exact ⟨p, rfl⟩
    have hrm := pget_mem hit; obtain ⟨hiok, hien⟩ := hrow _ hrm
    have hvh : RdH J vh it.heads := by
      obtain ⟨bM2, oM2, e2, hm2, hnd2, hrows2, hnx2⟩ := hd; exact (hrows2 _ hrm).2.1
    have hrl : (recsA (absT rows) next)[k + 1]? = some (recB it) := by
      unfold recsA; rw [List.getElem?_cons_succ, List.getElem?_map, absT_keysUp, hkk]
      show some (recB (itA (absT rows) kk)) = _
      unfold itA; rw [absT_get, hit]
      rfl
    have hzz : (keysUp rows).length ≤ 1000000 := by rw [keysUp_len]; exact hz
    have hbl : ((recsA (absT rows) next).take (k + 1)).length ≤ 1000001 := by rw [List.length_take]; omega
    refine CW.skip ?_; refine AQ.next ?_; refine CW.seq ?_; refine CW.block ?_; refine CW.seq ?_; refine CW.region ?_; refine RW.op1 rfl (RdL.indexAddr Tryz.underlying22 ti3 (by decide) rfl rfl hv25 (by omega)) ?_; refine RW.op1 rfl (runs_load1 sc3 rfl (hst.cell_imm (RdI.at hv25 (by omega) (by omega)))) ?_; rw [hki]; refine RW.op1 rfl (runs_assign rfl) ?_; refine RW.done ?_; refine AQ.next ?_; refine CW.seq ?_; refine CW.region ?_; refine RW.op1 rfl (runs_move rfl) ?_; refine RW.op1 rfl (runs_nilCheck rfl) ?_
    refine RW.op1 rfl (runs_fieldAddr0 rfl Tryz.underlying53 rfl ti51 (by decide)) ?_
    refine RW.op1 rfl (runs_load1 sc51 rfl (hst.cell_own (k := 0) rfl rfl)) ?_
    refine RW.op1 rfl (runs_move rfl) ?_; refine RW.op1 rfl (runs_lookup (i := 1) (keyI Tryz.underlying3) Tryz.underlying51 ti32 rfl rfl hst rfl hm) ?_; rw [mget_t, hit]; refine RW.call rfl call9 rfl rfl (putrec_spec hst hvh hiok) ?_; rintro e w ⟨J38, v38, hJ38, rfl, hstn, hv38⟩; clear hst; have hst := hstn; clear hstn; rw [hien] at hv38 ⊢; rw [if_pos rfl] at hv38; replace hgr := hgr.mono hJ38; replace hd := hd.mono hJ38; replace hv25 := hv25.mono hJ38; replace hle := hle.trans hJ38; refine ⟨_, rfl, ?_⟩; refine RW.op1 rfl (runs_move rfl) ?_; refine RW.op1 rfl (runs_extract rfl rfl) ?_; refine RW.op1 rfl (runs_extract rfl rfl) ?_; refine RW.op1 rfl (runs_assign rfl) ?_; refine RW.op1 rfl (runs_assign rfl) ?_; refine RW.done ?_; refine AQ.next ?_; refine CW.seq ?_; refine CW.seq ?_; refine CW.region ?_; refine RW.op1 rfl (runs_move rfl) ?_; refine RW.op1 rfl (runs_neI rfl rfl) ?_; refine RW.done ?_; refine AQ.next ?_; refine CW.cond rfl (fun hc => absurd hc (by decide)) (fun hc => ?_); refine CW.skip ?_; refine AQ.next ?_; refine CW.region ?_; refine RW.op1 rfl (runs_move rfl) ?_; refine RW.op1 rfl (runs_move rfl) ?_; refine RW.opE rfl (runs_lit1R (xs := [v38]) Tryz.underlying45 ti37 (by decide) rfl rfl rfl (by intro u hu; rw [List.mem_singleton.1 hu]; exact RdL.one hv38) hst) ?_; rintro u6 w ⟨I6, hI6, hstn, h6⟩; clear hst; have hst := hstn; clear hstn; replace hd := hd.mono hI6; replace hv25 := hv25.mono hI6; replace hv38 := hv38.mono hI6; replace hle := hle.trans hI6
    replace hgr := hgr.mono hI6; have hD : RdL _ 1 u6 1 [v38] := h6; replace hst := hst.perm (permAB (X := [(bT, Obj.cells #[Value.map (some bM), Value.int IntKind.i64 next] 53), (bM, oM)]) (Y := Lo)); refine RW.opE rfl (runs_appendRow Tryz.underlying45 ti37 rfl rfl rfl hst hgr hD hv38 (by omega) (by unfold maxLen; omega)) ?_; rintro uN w ⟨LvN, hstn, hgN⟩; clear hst; have hst := hstn; clear hstn; replace hst := hst.perm (permAB (X := LvN) (Y := [(bT, Obj.cells #[Value.map (some bM), Value.int IntKind.i64 next] 53), (bM, oM)])); refine RW.op1 rfl (runs_assign rfl) ?_; refine RW.done ?_; refine AQ.block_normal ?_; refine AQ.next ?_; refine CW.region ?_; refine RW.op1 rfl (runs_add rfl rfl (by omega)) ?_; refine RW.op1 rfl (runs_move rfl) ?_; refine RW.done ?_; exact AQ.again (x := (k, J, vo, Lo)) (k + 1, _, uN, LvN) ⟨hle, hd, hv25, hst, by dsimp only; rw [take_one hrl]; exact hgN, by dsimp only; omega⟩ ⟨rfl, rfl, rfl, rfl, rfl, trivial⟩ (by dsimp only; omega)
  · have hcb28 := hc28; try simp only [decide_eq_true_eq, decide_eq_false_iff_not] at hc28
    have hke : k = (keysUp rows).length := by omega
    refine CW.exit ?_; refine AQ.past_exit ?_; refine AQ.past_exit ?_; refine AQ.block_hit ?_; refine AQ.next ?_; refine CW.seq ?_; refine CW.region ?_; refine RW.op1 rfl (runs_move rfl) ?_; refine RW.op1 rfl (runs_assign rfl) ?_; refine RW.op1 rfl (runs_assign rfl) ?_; refine RW.done ?_; refine AQ.next ?_; refine CW.ret ?_; refine AQ.ret2 rfl rfl rfl ?_; have hfull : (recsA (absT rows) next).take (k + 1) = recsA (absT rows) next := List.take_of_length_le (by rw [recsA_len]; unfold absT; rw [List.length_map, hke, keysUp_len]; omega); rw [hfull] at hgr; exact ⟨_, _, _, hle, rfl, hst.perm (permAB (X := [(bT, Obj.cells #[Value.map (some bM), Value.int IntKind.i64 next] 53), (bM, oM)]) (Y := Lo)), hgr⟩
theorem trecs_spec {w0 w : World} {I : Imm} {L : Own} {rows : List TRow} {next : Int} {bT : Nat} {Lt : Own} (hd : TbO I rows next bT Lt) (hst : St w0 w I (Lt ++ L)) (hz : rows.length ≤ 1000000) (hrow : ∀ r ∈ rows, ItOk r.2.1 ∧ encOk (itAV r.2.1) = true) :
    Calls Tryz.prog 14 #[.pointer (some ⟨bT, 0, none⟩)] w fun e w' => ∃ I' v' vs, I.le I' ∧ e = .returned (.tuple #[v', .int .i64 0]) ∧ St w0 w' I' (Lt ++ L) ∧ RdR I' v' vs (recsA (absT rows) next) := by
  refine (records_own hd hst hz hrow).mono ?_; rintro e w' ⟨I', v', Lo, h1, rfl, h2, h3⟩; obtain ⟨J9, vs, hJ9, hst9, hr9⟩ := h3.freeze h2; exact ⟨J9, v', vs, h1.trans hJ9, rfl, hst9, hr9⟩
set_option maxRecDepth 100000 in
set_option maxHeartbeats 4000000 in
theorem same17_spec {w0 w : World} {I : Imm} {L : Own} (hst : St w0 w I L) {a b : It} {va vb : Value} (ha : RdH I va a.heads) (hb : RdH I vb b.heads) (oka : ItOk a) (okb : ItOk b) (la : a.heads.length ≤ 1000) (lb : b.heads.length ≤ 1000) (ea : encOk (itAV a) = true) (eb : encOk (itAV b) = true) :
    Calls Tryz.prog 37 #[itv a va, itv b vb] w fun e w' => ∃ I', I.le I' ∧ e = .returned (.bool (encA (itAV a) == encA (itAV b))) ∧ St w0 w' I' L := by
  refine enter Tryz.func37 rfl (N := 30) rfl rfl ?_
  simp only [List.zipIdx_cons, List.zipIdx_nil, List.map_cons, List.map_nil, Nat.zero_add, Nat.reduceAdd]
  have hle := Imm.le.refl I; refine CW.seq ?_; refine CW.region ?_; refine RW.opE rfl (runs_box rfl hst) ?_; rintro _ w ⟨b1, rfl, hstn⟩; clear hst; have hst := hstn; clear hstn; refine RW.opE rfl (runs_box rfl hst) ?_; rintro _ w ⟨b2, rfl, hstn⟩; clear hst; have hst := hstn; clear hstn; refine RW.op1 rfl (runs_assign rfl) ?_; refine RW.done ?_; refine AQ.next ?_; refine CW.seq ?_; refine CW.region ?_; refine RW.op1 rfl (runs_loadN (vs := [.int .i64 (a).id, .int .i64 (a).kind, .int .i64 (a).group, .string (a).name, .string (a).method, .string (a).url, va, .string (a).body, .int .i64 (a).mode, .int .i64 (a).creds, .string (a).page, .string (a).csp, .int .i64 (a).refer, .string (a).nurl, .string (a).nmethod, .string (a).nbody, .int .i64 (a).hops, .int .i64 (a).tries, .int .i64 (a).til, .bool (a).tainted, .string (a).got, .string (a).tag, .int .i64 (a).state, .int .i64 (a).code, .bool (a).acked]) ag32 ti32 rfl hst (k := 1) rfl rfl rfl) ?_; refine RW.call rfl call64 rfl rfl (rbytes17_spec hst ha oka la) ?_; rintro e w ⟨J11, v11, hJ11, rfl, hstn, h11⟩; clear hst; have hst := hstn; clear hstn; rw [ea] at h11 ⊢; rw [if_pos rfl] at h11; replace ha := ha.mono hJ11; replace hb := hb.mono hJ11; replace hle := hle.trans hJ11; refine ⟨_, rfl, ?_⟩; refine RW.op1 rfl (runs_move rfl) ?_; refine RW.op1 rfl (runs_extract rfl rfl) ?_; refine RW.op1 rfl (runs_extract rfl rfl) ?_; refine RW.op1 rfl (runs_assign rfl) ?_; refine RW.op1 rfl (runs_assign rfl) ?_; refine RW.done ?_; refine AQ.next ?_
  refine CW.seq ?_; refine CW.region ?_; refine RW.op1 rfl (runs_loadN (vs := [.int .i64 (b).id, .int .i64 (b).kind, .int .i64 (b).group, .string (b).name, .string (b).method, .string (b).url, vb, .string (b).body, .int .i64 (b).mode, .int .i64 (b).creds, .string (b).page, .string (b).csp, .int .i64 (b).refer, .string (b).nurl, .string (b).nmethod, .string (b).nbody, .int .i64 (b).hops, .int .i64 (b).tries, .int .i64 (b).til, .bool (b).tainted, .string (b).got, .string (b).tag, .int .i64 (b).state, .int .i64 (b).code, .bool (b).acked]) ag32 ti32 rfl hst (k := 0) rfl rfl rfl) ?_; refine RW.call rfl call64 rfl rfl (rbytes17_spec hst hb okb lb) ?_; rintro e w ⟨J16, v16, hJ16, rfl, hstn, h16⟩; clear hst; have hst := hstn; clear hstn; rw [eb] at h16 ⊢; rw [if_pos rfl] at h16; replace ha := ha.mono hJ16; replace hb := hb.mono hJ16; replace h11 := h11.mono hJ16; replace hle := hle.trans hJ16; refine ⟨_, rfl, ?_⟩; refine RW.op1 rfl (runs_move rfl) ?_; refine RW.op1 rfl (runs_extract rfl rfl) ?_; refine RW.op1 rfl (runs_extract rfl rfl) ?_; refine RW.op1 rfl (runs_assign rfl) ?_; refine RW.op1 rfl (runs_assign rfl) ?_; refine RW.done ?_; refine AQ.next ?_; refine CW.seq ?_; refine CW.region ?_; refine RW.op1 rfl (runs_move rfl) ?_; refine RW.op1 rfl (runs_move rfl) ?_; have hk20 := (show (true : Bool) = true from rfl); refine RW.on_guard rfl rfl rfl rfl hk20 ?_; refine RW.op1 rfl (runs_move rfl) ?_; refine RW.op1 rfl (runs_pick_true rfl hk20 rfl) ?_
  refine RW.op1 rfl (runs_move rfl) ?_; have hk23 := (show (true : Bool) = true from rfl); refine RW.on_guard rfl rfl rfl rfl hk23 ?_; refine RW.op1 rfl (runs_move rfl) ?_; refine RW.on_guard rfl rfl rfl rfl hk23 ?_; refine RW.op1 rfl (RdB.string Tryz.underlying37 Tryz.underlying5 Tryz.underlying9 rfl h11 hst) ?_; refine RW.on_guard rfl rfl rfl rfl hk23 ?_; refine RW.op1 rfl (runs_move rfl) ?_; refine RW.on_guard rfl rfl rfl rfl hk23 ?_; refine RW.op1 rfl (RdB.string Tryz.underlying37 Tryz.underlying5 Tryz.underlying9 rfl h16 hst) ?_; refine RW.on_guard rfl rfl rfl rfl hk23 ?_; refine RW.op1 rfl (runs_eqS rfl rfl) ?_; refine RW.op1 rfl (runs_pick_true rfl hk23 rfl) ?_; refine RW.op1 rfl (runs_assign rfl) ?_; refine RW.done ?_; refine AQ.next ?_; refine CW.ret ?_; refine AQ.ret1 rfl rfl ?_; refine ⟨_, hle, ?_, hst.drop1.drop1⟩; rw [strOf_toList, strOf_toList]
end Go.Proofs.YtlmmpcdjkpibcaaGreatX
