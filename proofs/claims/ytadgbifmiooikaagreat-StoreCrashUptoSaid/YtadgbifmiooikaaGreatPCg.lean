/- Parts of a proof, joined: walks through the program's functions and their laws, in the order in which they need each other. -/
import Derived.Test.YtadgbifmiooikaaGreatPCf
import Derived.Test.YtadgbifmiooikaaGreatPCb
import Derived.Test.YtadgbifmiooikaaGreatPCc
namespace Go.Proofs.YtadgbifmiooikaaGreatX
set_option linter.unusedVariables false
set_option linter.unusedSimpArgs false
open Go Go.RowKit
def absT (rows : List TRow) : List (Int × It) := rows.map fun r => (r.1, r.2.1)
theorem absT_keys (rows : List TRow) : (absT rows).map Prod.fst = rows.map Prod.fst := by unfold absT; rw [List.map_map]; rfl
theorem absT_keysUp (rows : List TRow) : keysUp (absT rows) = keysUp rows := by unfold keysUp; rw [absT_keys]
theorem absT_get (rows : List TRow) (k : Int) : pget (absT rows) k = (pget rows k).map Prod.fst := pget_map Prod.fst rows k
theorem absT_put (rows : List TRow) (k : Int) (p : It × Value) : absT (pput rows k p) = pput (absT rows) k p.1 := pput_map Prod.fst rows k p
theorem absT_del (rows : List TRow) (k : Int) : absT (pdel rows k) = pdel (absT rows) k := pdel_map Prod.fst rows k
def itA (A : List (Int × It)) (k : Int) : It := (pget A k).getD zeroIt
def recsA (A : List (Int × It)) (next : Int) : List (List UInt8) := encA [.txt nextS, .num next] :: (keysUp A).map fun k => recB (itA A k)
theorem ck_join (b : List UInt8) : ∀ m, m ≤ ckCnt b.length → (List.range m).flatMap (ckL b) = b.take (200 * m)
  | 0, _ => by simp
  | m + 1, h => by
    have h1 : 200 * m < b.length := by unfold ckCnt at h; omega
    rw [List.range_succ, List.flatMap_append, ck_join b m (by omega), List.flatMap_cons, List.flatMap_nil, List.append_nil]; unfold ckL ckHi; rw [show 200 * (m + 1) = 200 * m + 200 by omega, List.take_add]
    congr 1
    by_cases h2 : 200 * m + 200 ≤ b.length
    · rw [Nat.min_eq_left h2]; congr 1; omega
    · rw [Nat.min_eq_right (by omega), List.take_of_length_le (by rw [List.length_drop]; omega), List.take_of_length_le (by rw [List.length_drop]; omega)]
theorem allB_rec (b : List UInt8) : allB (recAV b (ckCnt b.length)) = b := by
  unfold allB recAV; rw [List.drop_succ_cons, List.drop_zero, List.flatMap_map]
  have e : (List.range (ckCnt b.length)).flatMap (fun k => txtL (.txt (strOf (ckL b k)))) = (List.range (ckCnt b.length)).flatMap (ckL b) := by
    congr 1
    funext k
    exact strOf_toList _
  rw [e, ck_join b _ (Nat.le_refl _)]; exact List.take_of_length_le (by unfold ckCnt; omega)
theorem putOk_rec {it : It} (hok : ItOk it) (ho : encOk (itAV it) = true) : putOk (recAV (encA (itAV it)) (ckCnt (encA (itAV it)).length)) (recB it) = some it := by
  unfold putOk; rw [allB_rec, decIt_self hok ho]; exact if_pos rfl
theorem decA_rec (it : It) : decA (recB it) = some (recAV (encA (itAV it)) (ckCnt (encA (itAV it)).length)) := by
  unfold recB; exact decA_encA (Nat.le_refl 255) (recAV_good _ _)
theorem Ap_put {it : It} (hok : ItOk it) (ho : encOk (itAV it) = true) {rows rows' : List TRow} {next next' err : Int} (ha : Ap (recB it) rows next err rows' next') : err = 0 ∧ (∃ v, rows' = pput rows it.id (it, v)) ∧ next' = nextR next it.id := by
  have hw : wordOf (recAV (encA (itAV it)) (ckCnt (encA (itAV it)).length)) = putL := wordOf_txt putL _; unfold Ap at ha; rw [decA_rec, Option.getD_some, if_pos hw, putOk_rec hok ho] at ha; exact ha
theorem recB_len {it : It} (ho : encOk (itAV it) = true) : (recB it).length ≤ (ckCnt ((25 + it.heads.length * 2) * 257) + 1) * 257 := by
  have h1 := encA_le ho; rw [itAV_len] at h1; have h2 := encA_le (good_encOk (recAV_good (encA (itAV it)) (ckCnt (encA (itAV it)).length)) (Nat.le_refl 255)); rw [recAV_len] at h2
  have h3 : ckCnt (encA (itAV it)).length ≤ ckCnt ((25 + it.heads.length * 2) * 257) := by unfold ckCnt; omega
  unfold recB; refine Nat.le_trans h2 (Nat.mul_le_mul_right _ (by omega))
theorem pput_new {α : Type} {A : List (Int × α)} {k : Int} {v : α} (h : k ∉ A.map Prod.fst) : pput A k v = A ++ [(k, v)] := by
  induction A with
  | nil => rfl
  | cons p t ih =>
    obtain ⟨a, u⟩ := p; rw [List.map_cons, List.mem_cons, not_or] at h; unfold pput; rw [if_neg h.1, ih h.2]
    rfl
def mkT (A : List (Int × It)) (j : Nat) : List (Int × It) := ((keysUp A).take j).map fun k => (k, itA A k)
theorem mkT_step {A : List (Int × It)} (hn : (A.map Prod.fst).Nodup) (hid : ∀ r ∈ A, r.2.id = r.1) {j : Nat} {k : Int} (hk : (keysUp A)[j]? = some k) : (itA A k).id = k ∧ pput (mkT A j) k (itA A k) = mkT A (j + 1) := by
  have hkm : k ∈ A.map Prod.fst := (keysUp_mem A k).1 (List.mem_of_getElem? hk)
  obtain ⟨it, hit⟩ : ∃ it, pget A k = some it := by
    cases h : pget A k with
    | none => exact absurd hkm (pget_none.1 h)
    | some it => exact ⟨it, rfl⟩
  have h1 : itA A k = it := by unfold itA; rw [hit]; rfl
  refine ⟨by rw [h1]; exact hid _ (pget_mem hit), ?_⟩; unfold mkT; rw [List.take_add_one, hk, List.map_append]; refine pput_new ?_; rw [List.map_map]; intro hm
  have hm2 : k ∈ (keysUp A).take j := by
    obtain ⟨q, hq, e⟩ := List.mem_map.1 hm; have e2 : q = k := e; rw [← e2]; exact hq
  have hlt := keysUp_lt hn; obtain ⟨i, hi, e⟩ := List.getElem_of_mem hm2; rw [List.length_take] at hi; rw [List.getElem_take] at e; obtain ⟨hj, ej⟩ := List.getElem?_eq_some_iff.1 hk; have := List.pairwise_iff_getElem.1 hlt i j (by omega) hj (by omega); omega
theorem mkT_keys (A : List (Int × It)) : (mkT A (keysUp A).length).map Prod.fst = keysUp A := by
  unfold mkT; rw [List.take_of_length_le (Nat.le_refl _), List.map_map]; exact List.map_id'' (fun _ => rfl) _
theorem mkT_get {A : List (Int × It)} (hn : (A.map Prod.fst).Nodup) (k : Int) : pget (mkT A (keysUp A).length) k = pget A k := by
  by_cases hk : k ∈ A.map Prod.fst
  · obtain ⟨it, hit⟩ : ∃ it, pget A k = some it := by
      cases h : pget A k with
      | none => exact absurd hk (pget_none.1 h)
      | some it => exact ⟨it, rfl⟩
    rw [hit]; refine pget_some (by rw [mkT_keys]; exact (List.mergeSort_perm _ _).nodup_iff.2 hn) ?_; unfold mkT; rw [List.take_of_length_le (Nat.le_refl _)]; refine List.mem_map.2 ⟨k, (keysUp_mem A k).2 hk, ?_⟩; unfold itA; rw [hit]
    rfl
  · rw [pget_none.2 hk]; refine pget_none.2 ?_; rw [mkT_keys]
    exact fun h => hk ((keysUp_mem A k).1 h)
theorem recsA_len (A : List (Int × It)) (next : Int) : (recsA A next).length = A.length + 1 := by
  unfold recsA; rw [List.length_cons, List.length_map, keysUp_len]
theorem recsA_succ {A : List (Int × It)} {next : Int} {j : Nat} {b : List UInt8} (h : (recsA A next)[j + 1]? = some b) : ∃ k, (keysUp A)[j]? = some k ∧ b = recB (itA A k) := by
  unfold recsA at h; rw [List.getElem?_cons_succ, List.getElem?_map] at h
  cases hk : (keysUp A)[j]? with
  | none => rw [hk] at h; cases h
  | some k => rw [hk] at h; exact ⟨k, rfl, (Option.some.inj h).symm⟩
structure TbI (A : List (Int × It)) (next : Int) : Prop where
  nd : (A.map Prod.fst).Nodup
  id : ∀ r ∈ A, r.2.id = r.1
  ok : ∀ r ∈ A, ItOk r.2 ∧ encOk (itAV r.2) = true
  lt : ∀ r ∈ A, 1 ≤ r.1 ∧ r.1 < next
  nx : 1 ≤ next
  nz : next ≤ 1000000
  hl : ∀ r ∈ A, r.2.heads.length ≤ 1000
theorem TbI.nil : TbI [] 1 := ⟨by simp, by simp, by simp, by simp, by decide, by decide, by simp⟩
theorem TbI.itA_ok {A : List (Int × It)} {next : Int} (h : TbI A next) {k : Int} (hk : k ∈ keysUp A) : ItOk (itA A k) ∧ encOk (itAV (itA A k)) = true ∧ 1 ≤ k ∧ k < next ∧ (itA A k).heads.length ≤ 1000 := by
  have hk2 := (keysUp_mem A k).1 hk
  obtain ⟨it, hit⟩ : ∃ it, pget A k = some it := by
    cases h2 : pget A k with
    | none => exact absurd hk2 (pget_none.1 h2)
    | some it => exact ⟨it, rfl⟩
  have h1 : itA A k = it := by unfold itA; rw [hit]; rfl
  rw [h1]; have hm := pget_mem hit; exact ⟨(h.ok _ hm).1, (h.ok _ hm).2, (h.lt _ hm).1, (h.lt _ hm).2, h.hl _ hm⟩
theorem TbI.put {A : List (Int × It)} {next : Int} (h : TbI A next) {it : It} (hok : ItOk it) (ho : encOk (itAV it) = true) (h1 : 1 ≤ it.id) (h2 : it.id < 999999) (h3 : it.heads.length ≤ 1000) : TbI (pput A it.id it) (nextR next it.id) ∧ nextR next it.id = (if it.id + 1 > next then it.id + 1 else next) := by
  have e : nextR next it.id = (if it.id + 1 > next then it.id + 1 else next) := nextR_of (by unfold i64ok; omega); have hx := h.nx; have hz := h.nz; refine ⟨⟨pput_nodup h.nd _ _, ?_, ?_, ?_, ?_, ?_, ?_⟩, e⟩
  · intro r hr
    rcases pput_mem hr with rfl | hr
    · rfl
    · exact h.id r hr
  · intro r hr
    rcases pput_mem hr with rfl | hr
    · exact ⟨hok, ho⟩
    · exact h.ok r hr
  · intro r hr; rw [e]
    rcases pput_mem hr with rfl | hr
    · dsimp only; split <;> omega
    · have := h.lt r hr; split <;> omega
  · rw [e]; split <;> omega
  · rw [e]; split <;> omega
  · intro r hr
    rcases pput_mem hr with rfl | hr
    · exact h3
    · exact h.hl r hr
theorem TbI.del {A : List (Int × It)} {next : Int} (h : TbI A next) (k : Int) : TbI (pdel A k) next :=
  ⟨pdel_nodup h.nd _, fun r hr => h.id r (pdel_mem hr), fun r hr => h.ok r (pdel_mem hr), fun r hr => h.lt r (pdel_mem hr), h.nx, h.nz, fun r hr => h.hl r (pdel_mem hr)⟩
theorem remake_step {A : List (Int × It)} {next : Int} (h : TbI A next) {j : Nat} {b : List UInt8} (hb : (recsA A next)[j]? = some b) {rows rows' : List TRow} {nx nx' err : Int} (hj : (j = 0 ∧ rows = [] ∧ nx = 1) ∨ (1 ≤ j ∧ absT rows = mkT A (j - 1) ∧ nx = next)) (ha : Ap b rows nx err rows' nx') : err = 0 ∧ absT rows' = mkT A j ∧ nx' = next := by
  have hx := h.nx; have hz := h.nz
  rcases hj with ⟨rfl, rfl, rfl⟩ | ⟨h1, h2, rfl⟩
  · have hb2 : encA [.txt nextS, .num next] = b := Option.some.inj hb; subst hb2; obtain ⟨e1, e2, e3⟩ := Ap_next (decA_encA (Nat.le_refl 255) (two_good (by decide) (by unfold i64ok; omega))) ha; refine ⟨e1, by rw [e2]; rfl, ?_⟩
    rw [e3]; split <;> omega
  · obtain ⟨j, rfl⟩ : ∃ i, j = i + 1 := ⟨j - 1, by omega⟩; obtain ⟨k, hk, rfl⟩ := recsA_succ hb; obtain ⟨i1, i2, i3, i4, i5⟩ := h.itA_ok (List.mem_of_getElem? hk); obtain ⟨e1, ⟨v, e2⟩, e3⟩ := Ap_put i1 i2 ha; obtain ⟨m1, m2⟩ := mkT_step h.nd h.id hk; refine ⟨e1, ?_, ?_⟩
    · rw [e2, absT_put, h2, m1, Nat.add_sub_cancel]; exact m2
    · rw [e3, m1, nextR_of (by unfold i64ok; omega)]
      split <;> omega
theorem recsA_bound {A : List (Int × It)} {next : Int} (h : TbI A next) {j : Nat} {b : List UInt8} (hb : (recsA A next)[j]? = some b) : b.length ≤ 1000000 := by
  have hx := h.nx; have hz := h.nz
  cases j with
  | zero =>
    have hb2 : encA [.txt nextS, .num next] = b := Option.some.inj hb; rw [← hb2]; have := encA_le (two_ok (t := nextS) (by decide) (n := next) (by unfold i64ok; omega)); have e : ([AV.txt nextS, AV.num next] : List AV).length = 2 := rfl; rw [e] at this; omega
  | succ j =>
    obtain ⟨k, hk, rfl⟩ := recsA_succ hb; obtain ⟨i1, i2, i3, i4, i5⟩ := h.itA_ok (List.mem_of_getElem? hk); refine Nat.le_trans (recB_len i2) ?_; unfold ckCnt; omega
theorem TbI.rows {rows : List TRow} {next : Int} (h : TbI (absT rows) next) : ∀ r ∈ rows, ItOk r.2.1 ∧ encOk (itAV r.2.1) = true := fun r hr => h.ok (r.1, r.2.1) (List.mem_map.2 ⟨r, hr, rfl⟩)
theorem pdel_len {α : Type} (rows : List (Int × α)) (k : Int) : (pdel rows k).length ≤ rows.length := by
  have h := congrArg List.length (pdel_keys rows k); rw [List.length_map] at h; rw [h]; have h2 := List.length_erase_le (a := k) (l := rows.map Prod.fst); rw [List.length_map] at h2; exact h2
theorem pput_len {α : Type} (rows : List (Int × α)) (k : Int) (v : α) : (pput rows k v).length ≤ rows.length + 1 := by
  have h := congrArg List.length (pput_keys rows k v); rw [List.length_map] at h; rw [h]
  split
  · rw [List.length_map]; omega
  · rw [List.length_append, List.length_map]; simp
end Go.Proofs.YtadgbifmiooikaaGreatX
namespace Go.Proofs.YtadgbifmiooikaaGreatX
set_option linter.unusedVariables false
open Go Go.RowKit
attribute [local simp] two_length three_length
variable {w : World} {P : Program} {l : Env} {ty : TypeId}
theorem or_nat (X Y : Nat) (hX : X < 2 ^ 62) (hY : Y < 2 ^ 62) : bitop .or .i64 (X : Int) (Y : Int) = ((X ||| Y : Nat) : Int) := by
  have h : X ||| Y < 2 ^ 62 := Nat.or_lt_two_pow hX hY
  show IntKind.i64.wrap (((BitVec.ofInt 64 (X : Int)) ||| (BitVec.ofInt 64 (Y : Int))).toNat : Int) = _
  rw [BitVec.ofInt_natCast, BitVec.ofInt_natCast, BitVec.toNat_or, BitVec.toNat_ofNat, BitVec.toNat_ofNat, Nat.mod_eq_of_lt (by omega), Nat.mod_eq_of_lt (by omega)]; exact wrap_i64 (by omega)
theorem or_add {A B n : Nat} (hA : A * 2 ^ n < 2 ^ 62) (hB : B < 2 ^ n) (hn : n ≤ 60) : bitop .or .i64 ((A : Int) * 2 ^ n) (B : Int) = (A : Int) * 2 ^ n + B := by
  have h2 : (2 : Nat) ^ n ≤ 2 ^ 60 := Nat.pow_le_pow_right (by decide) hn; have h := or_nat (A * 2 ^ n) B hA (by omega)
  have e : ((A * 2 ^ n : Nat) : Int) = (A : Int) * 2 ^ n := by push_cast; rfl
  rw [← e, h]; have h3 := Nat.two_pow_add_eq_or_of_lt hB A; rw [Nat.mul_comm A, ← h3]
  push_cast
  rfl
def batN (bs : List UInt8) (i : Int) : Nat := (bs.getD i.toNat 0).toNat
theorem bat_N (bs : List UInt8) (i : Int) : bat bs i = (batN bs i : Int) := rfl
theorem batN_lt (bs : List UInt8) (i : Int) : batN bs i < 256 := (bs.getD i.toNat 0).toNat_lt
theorem runs_shlBat {t t' : TypeId} {x y : Operand} {bs : List UInt8} {i : Int} {n : Nat} (hx : ev l x = some (.int .i64 (bat bs i))) (hy : ev l y = some (.int .u64 (n : Int))) (h : n ≤ 40) :
    Runs P (.binOp .shl t x y t') ty l w (.value (.int .i64 (bat bs i * 2 ^ n))) w := by
  have h0 := runs_shl (w := w) (ty := ty) (P := P) (t := t) (t' := t') hx hy (by show n ≤ 64; omega)
  have h1 : (2 : Int) ^ n ≤ 2 ^ 40 := by
    have : (2 : Nat) ^ n ≤ 2 ^ 40 := Nat.pow_le_pow_right (by decide) h
    have h2 : ((2 ^ n : Nat) : Int) = (2 : Int) ^ n := by push_cast; rfl
    omega
  have h3 : (0 : Int) ≤ 2 ^ n := Int.pow_nonneg (by decide); have hb := bat_lt bs i; have h4 : bat bs i * 2 ^ n ≤ 255 * 2 ^ 40 := Int.mul_le_mul hb.2 h1 h3 (by decide); have h5 : 0 ≤ bat bs i * 2 ^ n := Int.mul_nonneg hb.1 h3; rw [wrap_i64 ⟨by omega, by omega⟩] at h0; exact h0
theorem runs_or2 {t t' : TypeId} {x y : Operand} {s s' : List UInt8} {i j : Int} (hx : ev l x = some (.int .i64 (bat s i * 2 ^ 8))) (hy : ev l y = some (.int .i64 (bat s' j))) :
    Runs P (.binOp .or t x y t') ty l w (.value (.int .i64 (bat s i * 2 ^ 8 + bat s' j))) w := by
  have h := runs_or (w := w) (ty := ty) (P := P) (t := t) (t' := t') hx hy; have h1 := batN_lt s i; have h2 := batN_lt s' j; rw [bat_N, bat_N, or_add (by omega) (by omega) (by decide)] at h; exact h
theorem runs_or3a {t t' : TypeId} {x y : Operand} {s s' : List UInt8} {i j : Int} (hx : ev l x = some (.int .i64 (bat s i * 2 ^ 16))) (hy : ev l y = some (.int .i64 (bat s' j * 2 ^ 8))) :
    Runs P (.binOp .or t x y t') ty l w (.value (.int .i64 (bat s i * 2 ^ 16 + bat s' j * 2 ^ 8))) w := by
  have h := runs_or (w := w) (ty := ty) (P := P) (t := t) (t' := t') hx hy; have h1 := batN_lt s i; have h2 := batN_lt s' j
  have e : ((batN s' j : Int) * 2 ^ 8) = ((batN s' j * 2 ^ 8 : Nat) : Int) := by omega
  rw [bat_N, bat_N, e, or_add (by omega) (by omega) (by decide)] at h; rw [bat_N, bat_N, e]; exact h
theorem runs_or3b {t t' : TypeId} {x y : Operand} {s s' s'' : List UInt8} {i j k : Int} (hx : ev l x = some (.int .i64 (bat s i * 2 ^ 16 + bat s' j * 2 ^ 8))) (hy : ev l y = some (.int .i64 (bat s'' k))) :
    Runs P (.binOp .or t x y t') ty l w (.value (.int .i64 (bat s i * 2 ^ 16 + bat s' j * 2 ^ 8 + bat s'' k))) w := by
  have h := runs_or (w := w) (ty := ty) (P := P) (t := t) (t' := t') hx hy; have h1 := batN_lt s i; have h2 := batN_lt s' j; have h3 := batN_lt s'' k
  have e : ((batN s i : Int) * 2 ^ 16 + (batN s' j : Int) * 2 ^ 8) = ((batN s i * 2 ^ 8 + batN s' j : Nat) : Int) * 2 ^ 8 := by omega
  rw [bat_N, bat_N, bat_N, e, or_add (by omega) (by omega) (by decide)] at h; rw [bat_N, bat_N, bat_N, e]; exact h
structure OpenR where
  e : Int
  q : Int
  p : Int
  n : Int
  b : List UInt8
  err : Int
def epochOf (s : List UInt8) : Int := bat s 0 * 2 ^ 8 + bat s 1
def seqOf (s : List UInt8) : Int := bat s 2 * 2 ^ 16 + bat s 3 * 2 ^ 8 + bat s 4
def bodyOf (s : List UInt8) : List UInt8 := (s.drop 8).take (batN s 7)
def openOk (s : List UInt8) : Bool := decide (s.length = 32) && decide (bat s 7 ≤ 19) && sealM (epochOf s) (seqOf s) (bat s 5) (bat s 6) (bodyOf s) && decide (sealB (epochOf s) (seqOf s) (bat s 5) (bat s 6) (bodyOf s) = s)
def openR (s : List UInt8) : OpenR := if openOk s then ⟨epochOf s, seqOf s, bat s 5, bat s 6, bodyOf s, 0⟩ else ⟨0, 0, 0, 0, [], 2⟩
theorem openR_bad {s : List UInt8} (h : openOk s = false) : openR s = ⟨0, 0, 0, 0, [], 2⟩ := by unfold openR; rw [h]; rfl
theorem openR_ok {s : List UInt8} (h : openOk s = true) : openR s = ⟨epochOf s, seqOf s, bat s 5, bat s 6, bodyOf s, 0⟩ := by unfold openR; rw [h]; rfl
theorem body_of (s : List UInt8) : (s.drop 8).take ((8 + bat s 7).toNat - 8) = bodyOf s := by
  unfold bodyOf; rw [show (8 + bat s 7).toNat - 8 = batN s 7 from by have := bat_N s 7; omega]
theorem bodyOf_length (s : List UInt8) : (bodyOf s).length ≤ s.length := by unfold bodyOf; rw [List.length_take, List.length_drop]; omega
theorem openOk_len {s : List UInt8} (h : s.length ≠ 32) : openOk s = false := by unfold openOk; simp [h]
theorem openOk_long {s : List UInt8} (h : 19 < bat s 7) : openOk s = false := by
  unfold openOk
  have : ¬ bat s 7 ≤ 19 := by omega
  simp [this]
theorem openOk_mark {s : List UInt8} (h : sealM (epochOf s) (seqOf s) (bat s 5) (bat s 6) (bodyOf s) = false) : openOk s = false := by unfold openOk; simp [h]
theorem openOk_ne {s : List UInt8} (h : sealB (epochOf s) (seqOf s) (bat s 5) (bat s 6) (bodyOf s) ≠ s) : openOk s = false := by unfold openOk; simp [h]
theorem openOk_all {s : List UInt8} (h1 : s.length = 32) (h2 : bat s 7 ≤ 19) (h3 : sealM (epochOf s) (seqOf s) (bat s 5) (bat s 6) (bodyOf s) = true) (h4 : sealB (epochOf s) (seqOf s) (bat s 5) (bat s 6) (bodyOf s) = s) : openOk s = true := by
  unfold openOk; simp [h1, h2, h3, h4]
theorem sealB_length {e s p n : Int} {b : List UInt8} (h : b.length ≤ 19) : (sealB e s p n b).length = 32 := by
  simp only [sealB, two, three, List.length_append, List.length_cons, List.length_nil, List.length_replicate]; omega
def byteAt (n : Int) (i : Nat) : UInt8 := u8 (IntKind.i64.wrap (n + IntKind.i64.wrap ((i : Int) * bitop .or .i64 (IntKind.i64.wrap (n.tdiv 5)) 1)))
def bytesOf (n size : Int) : List UInt8 := (List.range size.toNat).map (byteAt n)
theorem bytesOf_length (n size : Int) : (bytesOf n size).length = size.toNat := by simp [bytesOf]
def bytesTo (n : Int) (m k : Nat) : List UInt8 := (List.range k).map (byteAt n) ++ List.replicate (m - k) 0
theorem bytesTo_length {n : Int} {m k : Nat} (h : k ≤ m) : (bytesTo n m k).length = m := by simp [bytesTo]; omega
theorem bytesTo_zero (n : Int) (m : Nat) : bytesTo n m 0 = List.replicate m 0 := by simp [bytesTo]
theorem bytesTo_end (n : Int) (m : Nat) : bytesTo n m m = (List.range m).map (byteAt n) := by simp [bytesTo]
theorem bytesTo_set {n : Int} {m k : Nat} (h : k < m) : (bytesTo n m k).set k (byteAt n k) = bytesTo n m (k + 1) := by
  unfold bytesTo
  have hl : ((List.range k).map (byteAt n)).length = k := by simp
  rw [List.set_append_right _ _ (by omega), hl, Nat.sub_self, List.range_succ, List.map_append]; obtain ⟨r, hr⟩ : ∃ r, m - k = r + 1 := ⟨m - k - 1, by omega⟩; rw [hr, show m - (k + 1) = r by omega, List.replicate_succ]
  simp
end Go.Proofs.YtadgbifmiooikaaGreatX
namespace Go.Proofs.YtadgbifmiooikaaGreatX
set_option linter.unusedVariables false
set_option linter.unusedSimpArgs false
open Go Go.RowKit
variable {w0 w : World} {I : Imm} {L : Own}
structure DS where
  secs : List (List UInt8)
  pend : List (Int × List UInt8)
  left : Int
  down : Bool
def wrow (p : Int × List UInt8) : List Value := .int .i64 p.1 :: p.2.map b8
def DOk (S : DS) : Prop := S.secs.length ≤ 1024 ∧ (∀ s ∈ S.secs, s.length = 32) ∧ (∀ p ∈ S.pend, p.2.length = 32 ∧ 0 ≤ p.1 ∧ p.1 < S.secs.length) ∧ -1 ≤ S.left ∧ S.left ≤ 9223372036854775807
def DiskO (d : Value) (S : DS) (Ld : Own) : Prop := ∃ hb vl vp Ls Lp, d = .pointer (some ⟨hb, 0, none⟩) ∧ Ld = (hb, .cells #[vl, vp, .int .i64 S.left, .bool S.down] 62) :: (Ls ++ Lp) ∧
  Grow 76 32 vl S.secs.length (S.secs.flatMap (·.map b8)) Ls ∧ Grow 78 33 vp S.pend.length (S.pend.flatMap wrow) Lp ∧ DOk S
theorem DiskO.opn {d : Value} {S : DS} {Ld : Own} (hd : DiskO d S Ld) (hst : St w0 w I (Ld ++ L)) : ∃ hb vl vp Ls Lp, d = .pointer (some ⟨hb, 0, none⟩) ∧
    St w0 w I ((hb, .cells #[vl, vp, .int .i64 S.left, .bool S.down] 62) :: (Ls ++ (Lp ++ L))) ∧ Grow 76 32 vl S.secs.length (S.secs.flatMap (·.map b8)) Ls ∧ Grow 78 33 vp S.pend.length (S.pend.flatMap wrow) Lp ∧ DOk S ∧
    ∀ {w : World} {I : Imm}, St w0 w I ((hb, .cells #[vl, vp, .int .i64 S.left, .bool S.down] 62) :: (Ls ++ (Lp ++ L))) → St w0 w I (Ld ++ L) := by
  obtain ⟨hb, vl, vp, Ls, Lp, rfl, rfl, h1, h2, h3⟩ := hd; refine ⟨hb, vl, vp, Ls, Lp, rfl, ?_, h1, h2, h3, ?_⟩
  · simpa only [List.cons_append, List.append_assoc] using hst
  · intro w I h
    simpa only [List.cons_append, List.append_assoc] using h
theorem DiskO.shut {hb : Nat} {vl vp : Value} {S : DS} {Ls Lp : Own} (hst : St w0 w I ((hb, .cells #[vl, vp, .int .i64 S.left, .bool S.down] 62) :: (Ls ++ (Lp ++ L))))
    (h1 : Grow 76 32 vl S.secs.length (S.secs.flatMap (·.map b8)) Ls) (h2 : Grow 78 33 vp S.pend.length (S.pend.flatMap wrow) Lp) (h3 : DOk S) :
    ∃ Ld, St w0 w I (Ld ++ L) ∧ DiskO (.pointer (some ⟨hb, 0, none⟩)) S Ld :=
  ⟨(hb, .cells #[vl, vp, .int .i64 S.left, .bool S.down] 62) :: (Ls ++ Lp), by simpa only [List.cons_append, List.append_assoc] using hst, hb, vl, vp, Ls, Lp, rfl, rfl, h1, h2, h3⟩
theorem b8_all (bs : List UInt8) : (bs.map b8).all Value.oneCell' = true := by
  rw [List.all_eq_true]; exact b8_one bs
theorem wrow_all (p : Int × List UInt8) : (wrow p).all Value.oneCell' = true := by
  unfold wrow; rw [List.all_cons, b8_all]
  rfl
theorem wrow_len {p : Int × List UInt8} (h : p.2.length = 32) : (wrow p).length = 33 := by simp [wrow, h]
theorem getElem?_rows {α β : Type} {f : α → List β} {size : Nat} : ∀ (xs : List α) (_ : ∀ a ∈ xs, (f a).length = size) (k j : Nat), j < size → (xs.flatMap f)[k * size + j]? = xs[k]?.bind fun a => (f a)[j]?
  | [], _, k, j, _ => by simp
  | a :: r, hf, 0, j, h => by
    rw [List.flatMap_cons, List.getElem?_append_left (by rw [hf a (List.mem_cons_self ..)]; omega)]
    simp
  | a :: r, hf, k + 1, j, h => by
    rw [List.flatMap_cons, List.getElem?_append_right (by rw [hf a (List.mem_cons_self ..), Nat.add_mul]; omega), hf a (List.mem_cons_self ..), show (k + 1) * size + j - size = k * size + j by rw [Nat.add_mul]; omega, getElem?_rows r (fun x hx => hf x (List.mem_cons_of_mem _ hx)) k j h]
    simp
theorem row_at {α β : Type} {f : α → List β} {size : Nat} {xs : List α} (hf : ∀ a ∈ xs, (f a).length = size) {k : Nat} {a : α} (ha : xs[k]? = some a) : ∀ (j : Nat) (u : β), (f a)[j]? = some u → (xs.flatMap f)[k * size + j]? = some u := by
  intro j u hj
  have hjl : j < size := by
    have := (List.getElem?_eq_some_iff.1 hj).1
    rwa [hf a (List.mem_of_getElem? ha)] at this
  rw [getElem?_rows xs hf k j hjl, ha]; exact hj
theorem rows_set {α β : Type} {f : α → List β} {size : Nat} : ∀ (xs : List α) (_ : ∀ a ∈ xs, (f a).length = size) (k : Nat) (a : α), k < xs.length → (f a).length = size → (xs.flatMap f).take (k * size) ++ f a ++ (xs.flatMap f).drop (k * size + (f a).length) = (xs.set k a).flatMap f
  | [], _, k, a, h, _ => by simp at h
  | b :: r, hf, 0, a, h, ha => by
    rw [ha, Nat.zero_mul, Nat.zero_add, List.flatMap_cons, List.take_zero, List.nil_append, List.drop_left' (hf b (List.mem_cons_self ..)), List.set_cons_zero, List.flatMap_cons]
  | b :: r, hf, k + 1, a, h, ha => by
    have ih := rows_set r (fun x hx => hf x (List.mem_cons_of_mem _ hx)) k a (by simpa using h) ha; have hb := hf b (List.mem_cons_self ..); rw [List.flatMap_cons, List.set_cons_succ, List.flatMap_cons, ← ih, show (k + 1) * size = (f b).length + k * size by rw [hb, Nat.add_mul]; omega, List.take_length_add_append, Nat.add_assoc, List.drop_length_add_append]
    simp only [List.append_assoc]
def mayR (S : DS) (at_ : Int) : Int := if S.down = true then 8 else if at_ < 0 ∨ (S.secs.length : Int) ≤ at_ then 9 else 0
def readTo (S : DS) (at_ : Int) (k : Nat) : List UInt8 := (S.pend.take k).foldl (fun b p => if p.1 = at_ then p.2 else b) (S.secs.getD at_.toNat [])
def readR (S : DS) (at_ : Int) : List UInt8 := S.pend.foldl (fun b p => if p.1 = at_ then p.2 else b) (S.secs.getD at_.toNat [])
theorem mayR_ok {S : DS} {a : Int} (h : mayR S a = 0) : S.down = false ∧ 0 ≤ a ∧ a < S.secs.length := by
  unfold mayR at h
  split at h
  · cases h
  · split at h
    · cases h
    · exact ⟨by simpa using ‹¬ S.down = true›, by omega, by omega⟩
theorem readTo_next {S : DS} {a : Int} {k : Nat} {p : Int × List UInt8} (h : S.pend[k]? = some p) : readTo S a (k + 1) = if p.1 = a then p.2 else readTo S a k := by
  unfold readTo; rw [List.take_add_one, h, Option.toList_some, List.foldl_append]
  rfl
theorem readTo_end {S : DS} {a : Int} {k : Nat} (h : S.pend.length ≤ k) : readTo S a k = readR S a := by
  unfold readTo readR; rw [List.take_of_length_le h]
theorem sec_len {S : DS} (h : DOk S) {a : Int} (h0 : 0 ≤ a) (h1 : a < S.secs.length) : (S.secs.getD a.toNat []).length = 32 := by
  have hi : a.toNat < S.secs.length := by omega
  rw [List.getD_eq_getElem?_getD, List.getElem?_eq_getElem hi, Option.getD_some]; exact h.2.1 _ (List.getElem_mem _)
theorem readTo_len {S : DS} (h : DOk S) {a : Int} (h0 : 0 ≤ a) (h1 : a < S.secs.length) : ∀ k, (readTo S a k).length = 32
  | 0 => sec_len h h0 h1
  | k + 1 => by
    cases hp : S.pend[k]? with
    | none =>
      have hl : S.pend.length ≤ k := by rw [List.getElem?_eq_none_iff] at hp; exact hp
      rw [readTo_end (by omega), ← readTo_end hl]; exact readTo_len h h0 h1 k
    | some p =>
      rw [readTo_next hp]
      split
      · exact (h.2.2.1 p (List.mem_of_getElem? hp)).1
      · exact readTo_len h h0 h1 k
def writeR (S : DS) (at_ : Int) (b : List UInt8) : DS × Int :=
  if mayR S at_ ≠ 0 then (S, mayR S at_) else if b.length ≠ 32 then (S, 1) else if S.left = 0 then ({ S with down := true }, 8) else
  ({ S with left := if S.left - 1 > -1 then S.left - 1 else -1, pend := S.pend ++ [(at_, b)] }, 0)
def flushTo (S : DS) (k : Nat) : List (List UInt8) := (S.pend.take k).foldl (fun s p => s.set p.1.toNat p.2) S.secs
def flushR (S : DS) : DS × Int := if S.down = true then (S, 8) else ({ S with secs := S.pend.foldl (fun s p => s.set p.1.toNat p.2) S.secs, pend := [] }, 0)
theorem flushTo_next {S : DS} {k : Nat} {p : Int × List UInt8} (h : S.pend[k]? = some p) : flushTo S (k + 1) = (flushTo S k).set p.1.toNat p.2 := by
  unfold flushTo; rw [List.take_add_one, h, Option.toList_some, List.foldl_append]
  rfl
theorem fold_set {α : Type} {g : α → Nat} {f : α → List (List UInt8) → List UInt8} {n : Nat} : ∀ (ps : List α) (s : List (List UInt8)), s.length = n → (∀ x ∈ s, x.length = 32) → (∀ p ∈ ps, ∀ s : List (List UInt8), s.length = n → (∀ x ∈ s, x.length = 32) → (f p s).length = 32) →
    (ps.foldl (fun s p => s.set (g p) (f p s)) s).length = n ∧ ∀ x ∈ ps.foldl (fun s p => s.set (g p) (f p s)) s, x.length = 32
  | [], s, h1, h2, _ => ⟨h1, h2⟩
  | p :: ps, s, h1, h2, h3 => by
    rw [List.foldl_cons]; refine fold_set ps _ (by rw [List.length_set]; exact h1) ?_ (fun q hq => h3 q (List.mem_cons_of_mem _ hq)); intro x hx
    rcases List.mem_or_eq_of_mem_set hx with h | rfl
    · exact h2 x h
    · exact h3 p (List.mem_cons_self ..) s h1 h2
theorem flushTo_ok {S : DS} (h : DOk S) (k : Nat) : (flushTo S k).length = S.secs.length ∧ ∀ x ∈ flushTo S k, x.length = 32 :=
  fold_set (g := fun p : Int × List UInt8 => p.1.toNat) (f := fun p _ => p.2) (S.pend.take k) S.secs rfl h.2.1 (fun p hp _ _ _ => (h.2.2.1 p (List.mem_of_mem_take hp)).1)
def keptR (how : Int) : Int := if how = 1 then 16 else if how = 2 then 32 else 0
def keepN (ks : List Int) (i : Nat) : Nat := if i < ks.length then (keptR (ks.getD i 0)).toNat else 0
theorem keepN_le (ks : List Int) (i : Nat) : keepN ks i ≤ 32 := by
  unfold keepN keptR
  (repeat' split) <;> decide
def tornR (ks : List Int) (x : (Int × List UInt8) × Nat) (s : List (List UInt8)) : List UInt8 := x.1.2.take (keepN ks x.2) ++ (s.getD x.1.1.toNat []).drop (keepN ks x.2)
def crashTo (S : DS) (ks : List Int) (k : Nat) : List (List UInt8) := (S.pend.zipIdx.take k).foldl (fun s x => s.set x.1.1.toNat (tornR ks x s)) S.secs
def crashR (S : DS) (ks : List Int) : DS := { secs := S.pend.zipIdx.foldl (fun s x => s.set x.1.1.toNat (tornR ks x s)) S.secs, pend := [], left := -1, down := false }
theorem crashTo_next {S : DS} {ks : List Int} {k : Nat} {p : Int × List UInt8} (h : S.pend[k]? = some p) : crashTo S ks (k + 1) = (crashTo S ks k).set p.1.toNat (tornR ks (p, k) (crashTo S ks k)) := by
  unfold crashTo
  have h2 : S.pend.zipIdx[k]? = some (p, k) := by rw [List.getElem?_zipIdx, h]; simp
  rw [List.take_add_one, h2, Option.toList_some, List.foldl_append]
  rfl
theorem crashTo_ok {S : DS} (h : DOk S) (ks : List Int) (k : Nat) : (crashTo S ks k).length = S.secs.length ∧ ∀ x ∈ crashTo S ks k, x.length = 32 := by
  refine fold_set (g := fun x : (Int × List UInt8) × Nat => x.1.1.toNat) (f := fun x s => tornR ks x s) (S.pend.zipIdx.take k) S.secs rfl h.2.1 (fun x hx s hs1 hs2 => ?_)
  have hm : x.1 ∈ S.pend := by
    have := List.mem_of_mem_take hx; obtain ⟨i, hi⟩ := List.getElem?_of_mem this; rw [List.getElem?_zipIdx] at hi
    cases hp : S.pend[i]? with
    | none => rw [hp] at hi; cases hi
    | some q => rw [hp] at hi; simp at hi; rw [← hi]; exact List.mem_of_getElem? hp
  obtain ⟨h1, h2, h3⟩ := h.2.2.1 x.1 hm
  have h4 : (s.getD x.1.1.toNat []).length = 32 := by
    have hi : x.1.1.toNat < s.length := by rw [hs1]; omega
    rw [List.getD_eq_getElem?_getD, List.getElem?_eq_getElem hi, Option.getD_some]; exact hs2 _ (List.getElem_mem _)
  have := keepN_le ks x.2; unfold tornR; rw [List.length_append, List.length_take, List.length_drop, h1, h4]; omega
theorem perm_in {α : Type} (x : α) (A B C : List α) : (x :: (A ++ (B ++ C))).Perm (B ++ (x :: (A ++ C))) :=
  ((List.perm_append_comm_assoc A B C).cons x).trans List.perm_middle.symm
theorem bfill_w {a : Int} {b : List UInt8} {places : List (Nat × Nat)} {zc : List Value} (hp : places = [(0, 1), (1, 32)]) (hz : zc.length = 33) (hb : b.length = 32) : bfill (places[·]?) zc [(0, .int .i64 a), (1, .agg (b.map b8).toArray)] = some (wrow (a, b)) := by
  subst hp
  match zc, hz with
  | z :: zs, hz =>
    have hz2 : zs.length = 32 := by simpa using hz
    have e1 : vcells (.agg (b.map b8).toArray) = b.map b8 := rfl; have e2 : vcells (.int .i64 a) = [.int .i64 a] := rfl
    simp only [bfill, e1, e2, List.getElem?_cons_zero, List.getElem?_cons_succ, List.length_cons, List.length_nil, List.length_map, hb, hz2, List.take_zero, List.nil_append, List.drop_succ_cons, List.drop_zero, List.cons_append, List.take_succ_cons, Nat.zero_add]
    simp [hz2, wrow, hb]
end Go.Proofs.YtadgbifmiooikaaGreatX
namespace Go.Proofs.YtadgbifmiooikaaGreatX
set_option linter.unusedVariables false
set_option linter.unusedSimpArgs false
open Go Go.RowKit
variable {w0 w : World} {I : Imm} {L : Own} {P : Program} {l : Env} {ty : TypeId}
def polyN : Nat := 3988292384
def onesN : Nat := 4294967295
def crcBit (x : Nat) : Nat := if x % 2 = 1 then (x / 2) ^^^ polyN else x / 2
def crcBits : Nat → Nat → Nat
  | 0, x => x
  | k + 1, x => crcBits k (crcBit x)
def crcByte (x : Nat) (c : UInt8) : Nat := crcBits 8 (x ^^^ c.toNat)
def crcTo (bs : List UInt8) (k : Nat) : Nat := (bs.take k).foldl crcByte onesN
def crcN (bs : List UInt8) : Nat := bs.foldl crcByte onesN
def sumN (bs : List UInt8) : Nat := crcN bs ^^^ onesN
theorem xor_lt32 {x y : Nat} (hx : x < 4294967296) (hy : y < 4294967296) : x ^^^ y < 4294967296 := Nat.xor_lt_two_pow (n := 32) hx hy
theorem crcBit_lt {x : Nat} (h : x < 4294967296) : crcBit x < 4294967296 := by
  unfold crcBit
  split
  · exact xor_lt32 (by omega) (by decide)
  · omega
theorem crcBits_lt : ∀ (k : Nat) {x : Nat}, x < 4294967296 → crcBits k x < 4294967296
  | 0, x, h => h
  | k + 1, x, h => crcBits_lt k (crcBit_lt h)
theorem crcBits_succ : ∀ (k x : Nat), crcBits (k + 1) x = crcBit (crcBits k x)
  | 0, x => rfl
  | k + 1, x => by
    show crcBits (k + 1) (crcBit x) = _
    rw [crcBits_succ k (crcBit x)]
    rfl
theorem crcByte_lt {x : Nat} (h : x < 4294967296) (c : UInt8) : crcByte x c < 4294967296 := crcBits_lt 8 (xor_lt32 h (by have := c.toNat_lt; omega))
theorem crc_fold_lt : ∀ (bs : List UInt8) {x : Nat}, x < 4294967296 → bs.foldl crcByte x < 4294967296
  | [], x, h => h
  | c :: r, x, h => crc_fold_lt r (crcByte_lt h c)
theorem crcTo_lt (bs : List UInt8) (k : Nat) : crcTo bs k < 4294967296 := crc_fold_lt _ (by decide)
theorem sumN_lt (bs : List UInt8) : sumN bs < 4294967296 := xor_lt32 (crc_fold_lt bs (by decide)) (by decide)
theorem crcTo_next {bs : List UInt8} {k : Nat} (hk : k < bs.length) : crcTo bs (k + 1) = crcByte (crcTo bs k) bs[k] := by
  unfold crcTo; rw [List.take_add_one, List.getElem?_eq_getElem hk, Option.toList_some, List.foldl_append]
  rfl
theorem crcTo_end {bs : List UInt8} {k : Nat} (h : bs.length ≤ k) : crcTo bs k = crcN bs := by
  unfold crcTo crcN; rw [List.take_of_length_le h]
theorem bv32 {x : Nat} (h : x < 4294967296) : (BitVec.ofInt 32 (x : Int)) = BitVec.ofNat 32 x := by
  apply BitVec.eq_of_toNat_eq
  simp [BitVec.toNat_ofInt]
theorem xor32 {x y : Nat} (hx : x < 4294967296) (hy : y < 4294967296) : bitop .xor .u32 (x : Int) (y : Int) = ((x ^^^ y : Nat) : Int) := by
  have h := xor_lt32 hx hy
  show IntKind.u32.wrap (((BitVec.ofInt 32 (x : Int)) ^^^ (BitVec.ofInt 32 (y : Int))).toNat : Int) = _
  rw [bv32 hx, bv32 hy, BitVec.toNat_xor, BitVec.toNat_ofNat, BitVec.toNat_ofNat, Nat.mod_eq_of_lt (show x < 2 ^ 32 from hx), Nat.mod_eq_of_lt (show y < 2 ^ 32 from hy), IntKind.wrap_u32]; omega
theorem and1_32 {x : Nat} (hx : x < 4294967296) : bitop .and .u32 (x : Int) 1 = ((x % 2 : Nat) : Int) := by
  show IntKind.u32.wrap (((BitVec.ofInt 32 (x : Int)) &&& (BitVec.ofInt 32 ((1 : Nat) : Int))).toNat : Int) = _
  rw [bv32 hx, bv32 (by decide), BitVec.toNat_and, BitVec.toNat_ofNat, BitVec.toNat_ofNat, Nat.mod_eq_of_lt (show x < 2 ^ 32 from hx), show 1 % 2 ^ 32 = 1 from rfl, Nat.and_one_is_mod, IntKind.wrap_u32]; omega
def needN (n : Nat) : Nat := (n + 22) / 19
def sumB (bs : List UInt8) : List UInt8 := [u8 ((sumN bs : Int) / 2 ^ 24), u8 ((sumN bs : Int) / 2 ^ 16), u8 ((sumN bs : Int) / 2 ^ 8), u8 (sumN bs : Int)]
def wholeB (bs : List UInt8) : List UInt8 := sumB bs ++ bs
theorem wholeB_len (bs : List UInt8) : (wholeB bs).length = bs.length + 4 := by unfold wholeB sumB; simp
def partB (bs : List UInt8) (k : Nat) : List UInt8 := ((wholeB bs).drop (19 * k)).take 19
def secB (e q : Int) (bs : List UInt8) (k : Nat) : List UInt8 := sealB e q (k : Int) (needN bs.length : Nat) (partB bs k)
theorem partB_len (bs : List UInt8) (k : Nat) : (partB bs k).length ≤ 19 := by unfold partB; rw [List.length_take]; omega
def putTo (S : DS) (at_ : Int) (f : Nat → List UInt8) : Nat → DS
  | 0 => S
  | k + 1 => (writeR (putTo S at_ f k) (at_ + k) (f k)).1
def putE (S : DS) (at_ : Int) (f : Nat → List UInt8) (k : Nat) : Int := (writeR (putTo S at_ f k) (at_ + k) (f k)).2
def PutEnds (S : DS) (at_ : Int) (f : Nat → List UInt8) (n : Nat) (S' : DS) (next er : Int) : Prop :=
  ((∀ j, j < n → putE S at_ f j = 0) ∧ S' = putTo S at_ f n ∧ next = at_ + n ∧ er = 0) ∨
  ∃ k, k < n ∧ (∀ j, j < k → putE S at_ f j = 0) ∧ putE S at_ f k ≠ 0 ∧ S' = putTo S at_ f (k + 1) ∧ next = 0 ∧ er = putE S at_ f k
theorem writeR_pend (S : DS) (a : Int) (b : List UInt8) : (writeR S a b).1.pend.length ≤ S.pend.length + 1 := by
  unfold writeR
  (repeat' split) <;> simp
theorem putTo_pend (S : DS) (at_ : Int) (f : Nat → List UInt8) : ∀ k, (putTo S at_ f k).pend.length ≤ S.pend.length + k
  | 0 => Nat.le_refl _
  | k + 1 => by
    have h1 := putTo_pend S at_ f k; have h2 := writeR_pend (putTo S at_ f k) (at_ + k) (f k)
    show (writeR _ _ _).1.pend.length ≤ _
    omega
theorem writeR_secs (S : DS) (a : Int) (b : List UInt8) : (writeR S a b).1.secs = S.secs := by
  unfold writeR
  (repeat' split) <;> rfl
theorem putTo_secs (S : DS) (at_ : Int) (f : Nat → List UInt8) : ∀ k, (putTo S at_ f k).secs = S.secs
  | 0 => rfl
  | k + 1 => by
    show (writeR _ _ _).1.secs = _
    rw [writeR_secs, putTo_secs S at_ f k]
end Go.Proofs.YtadgbifmiooikaaGreatX
namespace Go.Proofs.YtadgbifmiooikaaGreatX
set_option linter.unusedVariables false
set_option linter.unusedSimpArgs false
open Go Go.RowKit Go.Proofs
attribute [local simp] two_length three_length
set_option maxRecDepth 100000 in
set_option maxHeartbeats 1000000 in
theorem equal_spec {w0 w : World} {I : Imm} {L : Own} (hst : St w0 w I L) {v u : Value} {a b : List UInt8} (ha : RdB I v a) (hb : RdB I u b) :
    Calls Tryz.prog 113 #[v, u] w fun e w' => e = .returned (.bool (decide (a = b))) ∧ St w0 w' I L := by
  refine enter Tryz.func113 rfl (N := 10) rfl rfl ?_
  simp only [zA, zB, zC, zD, zE, Nat.reduceAdd]
  have hle := Imm.le.refl I; refine zR <| zS rfl rfl <| zN <| zm rfl rfl <| z1 rfl (RdB.string Tryz.underlying52 Tryz.underlying5 Tryz.underlying9 rfl (by assumption) hst) ?_; refine zm rfl rfl <| z1 rfl (RdB.string Tryz.underlying52 Tryz.underlying5 Tryz.underlying9 rfl (by assumption) hst) ?_; refine z1 rfl (runs_eqS rfl rfl) <| zS rfl rfl <| zM <| CW.ret <| z9 rfl rfl ?_; exact ⟨by rw [strOf_toList, strOf_toList, beqB], hst⟩
set_option maxRecDepth 100000 in
set_option maxHeartbeats 1000000 in
theorem seal_own {w0 w : World} {I : Imm} {L : Own} (hst : St w0 w I L) (e s p n : Int) {v : Value} {b : List UInt8} (hv : RdB I v b) (hb : b.length ≤ 9223372036854775807) :
    Calls Tryz.prog 67 #[.agg #[.int .i64 e, .int .i64 s], .int .i64 p, .int .i64 n, v] w fun r w' => ∃ I' v' Lv, Imm.le I I' ∧ r = .returned (.tuple #[v', .int .i64 (if sealM e s p n b then 0 else 1)]) ∧ St w0 w' I' (Lv ++ L) ∧ GrowB 5 v' (if sealM e s p n b then sealB e s p n b else []) Lv := by
  refine enter Tryz.func67 rfl (N := 82) rfl rfl ?_
  simp only [zA, zB, zC, zD, zE, Nat.reduceAdd]
  have hle := Imm.le.refl I; refine zR <| ze rfl (runs_box rfl hst) ?_; clear hst; rintro _ w ⟨b1, rfl, hst⟩; refine zS rfl rfl <| zS rfl rfl <| zM <| zk <| zR <| z1 rfl (runs_loadN (vs := [_, _]) ag124 ti124 rfl hst (k := 0) rfl rfl rfl) ?_; refine zK rfl call108 rfl rfl (may_spec hst e s) ?_; clear hst; rintro e w ⟨rfl, hst⟩; refine ⟨_, rfl, ?_⟩; refine z1 rfl (runs_not rfl) <| zm rfl rfl <| zi (t := 16) rfl (fun hb16 => ?_) (fun hb16 => ?_)
  · have hb16p := hb16; (try simp only [dY, dF] at hb16p); refine zG rfl rfl rfl rfl rfl rfl hb16 <| zt rfl rfl hb16 rfl <| zm rfl rfl <| zH rfl rfl rfl rfl rfl rfl rfl rfl rfl <| zt rfl rfl rfl rfl <| zm rfl rfl <| zG rfl rfl rfl rfl rfl rfl rfl <| zt rfl rfl rfl rfl <| zm rfl rfl <| zH rfl rfl rfl rfl rfl rfl rfl rfl rfl ?_; refine zt rfl rfl rfl rfl <| zM ?_; refine CW.cond_true rfl ?_; refine zR <| zS rfl rfl <| zS rfl rfl <| zM <| CW.ret <| zr <| AQ.ret2 rfl rfl rfl ?_
    have hs : sealM e s p n b = false := by
      unfold sealM
      cases hm : mayM e s <;> simp_all <;> omega
    rw [hs]; exact ⟨I, _, [], Imm.le.refl I, rfl, hst.drop1, GrowB.nil _⟩
  · have hb16p := hb16; (try simp only [dY, dF] at hb16p); refine zo rfl rfl rfl rfl hb16 <| zm rfl rfl <| zo rfl rfl rfl rfl hb16 <| z1 rfl (runs_lss rfl rfl) <| zn rfl rfl hb16 rfl <| zm rfl rfl <| zi (t := 20) rfl (fun hb20 => ?_) (fun hb20 => ?_)
    · have hb20p := hb20; (try simp only [dY, dF] at hb20p); refine zH rfl rfl rfl rfl rfl rfl rfl rfl hb20 <| zt rfl rfl hb20 rfl <| zm rfl rfl <| zG rfl rfl rfl rfl rfl rfl rfl <| zt rfl rfl rfl rfl <| zm rfl rfl <| zH rfl rfl rfl rfl rfl rfl rfl rfl rfl <| zt rfl rfl rfl rfl <| zM <| CW.cond_true rfl ?_; refine zR <| zS rfl rfl <| zS rfl rfl <| zM <| CW.ret <| zr <| AQ.ret2 rfl rfl rfl ?_
      have hs : sealM e s p n b = false := by
        unfold sealM
        cases hm : mayM e s <;> simp_all <;> omega
      rw [hs]; exact ⟨I, _, [], Imm.le.refl I, rfl, hst.drop1, GrowB.nil _⟩
    · have hb20p := hb20; (try simp only [dY, dF] at hb20p); refine zo rfl rfl rfl rfl hb20 <| zm rfl rfl <| zo rfl rfl rfl rfl hb20 <| zm rfl rfl <| zo rfl rfl rfl rfl hb20 <| z1 rfl (runs_geq rfl rfl) <| zn rfl rfl hb20 rfl <| zm rfl rfl <| zi (t := 25) rfl (fun hb25 => ?_) (fun hb25 => ?_)
      · have hb25p := hb25; (try simp only [dY, dF] at hb25p); refine zG rfl rfl rfl rfl rfl rfl hb25 <| zt rfl rfl hb25 rfl <| zm rfl rfl <| zH rfl rfl rfl rfl rfl rfl rfl rfl rfl <| zt rfl rfl rfl rfl <| zM <| CW.cond_true rfl ?_; refine zR <| zS rfl rfl <| zS rfl rfl <| zM <| CW.ret <| zr <| AQ.ret2 rfl rfl rfl ?_
        have hs : sealM e s p n b = false := by
          unfold sealM
          cases hm : mayM e s <;> simp_all <;> omega
        rw [hs]; exact ⟨I, _, [], Imm.le.refl I, rfl, hst.drop1, GrowB.nil _⟩
      · have hb25p := hb25; (try simp only [dY, dF] at hb25p); refine zo rfl rfl rfl rfl hb25 <| zm rfl rfl <| zo rfl rfl rfl rfl hb25 <| z1 rfl (runs_gtr rfl rfl) <| zn rfl rfl hb25 rfl <| zm rfl rfl <| zi (t := 29) rfl (fun hb29 => ?_) (fun hb29 => ?_)
        · have hb29p := hb29; (try simp only [dY, dF] at hb29p); refine zH rfl rfl rfl rfl rfl rfl rfl rfl hb29 <| zt rfl rfl hb29 rfl <| zM <| CW.cond_true rfl ?_; refine zR <| zS rfl rfl <| zS rfl rfl <| zM <| CW.ret <| zr <| AQ.ret2 rfl rfl rfl ?_
          have hs : sealM e s p n b = false := by
            unfold sealM
            cases hm : mayM e s <;> simp_all <;> omega
          rw [hs]; exact ⟨I, _, [], Imm.le.refl I, rfl, hst.drop1, GrowB.nil _⟩
        · have hb29p := hb29; (try simp only [dY, dF] at hb29p); refine zo rfl rfl rfl rfl hb29 <| zm rfl rfl <| zo rfl rfl rfl rfl hb29 <| z1 rfl (RdL.len Tryz.underlying52 rfl (by assumption)) ?_; refine zo rfl rfl rfl rfl hb29 <| z1 rfl (runs_gtr rfl rfl) <| zn rfl rfl hb29 rfl <| zM <| zb rfl (fun hc33 => ?_) (fun hc33 => ?_)
          · have hcb33 := hc33; (try simp only [dY, dF] at hc33); refine zR <| zS rfl rfl <| zS rfl rfl <| zM <| CW.ret <| zr <| AQ.ret2 rfl rfl rfl ?_
            have hs : sealM e s p n b = false := by
              unfold sealM
              cases hm : mayM e s <;> simp_all <;> omega
            rw [hs]; exact ⟨I, _, [], Imm.le.refl I, rfl, hst.drop1, GrowB.nil _⟩
          · have hcb33 := hc33; (try simp only [dY, dF] at hc33); refine zj <| za <| zR <| zp rfl rfl U124 rfl ti3 rfl <| zl 0 rfl sc3 rfl hst rfl rfl <| z1 rfl (runs_shrE (n := 8) rfl rfl (by decide)) ?_; refine z1 rfl (runs_convB (by rw [Tryz.underlying3]; rfl) Tryz.underlying5 rfl) ?_; refine zp rfl rfl U124 rfl ti3 rfl <| zl 0 rfl sc3 rfl hst rfl rfl <| z1 rfl (runs_convB (by rw [Tryz.underlying3]; rfl) Tryz.underlying5 rfl) ?_; refine ze rfl (runs_litB (bs := two e) rfl Tryz.underlying52 ti5 (by decide) rfl rfl rfl hst) ?_; clear hst; rintro u3 w ⟨I3, hI3, hst, h3⟩; replace hv := hv.mono hI3; replace hle := hle.trans hI3; refine zS rfl rfl <| zN <| zp rfl rfl U124 rfl ti3 rfl <| zl 0 rfl sc3 rfl hst rfl rfl <| z1 rfl (runs_shrE (n := 16) rfl rfl (by decide)) ?_; refine z1 rfl (runs_convB (by rw [Tryz.underlying3]; rfl) Tryz.underlying5 rfl) ?_; refine zp rfl rfl U124 rfl ti3 rfl <| zl 0 rfl sc3 rfl hst rfl rfl <| z1 rfl (runs_shrE (n := 8) rfl rfl (by decide)) ?_; refine z1 rfl (runs_convB (by rw [Tryz.underlying3]; rfl) Tryz.underlying5 rfl) ?_; refine zp rfl rfl U124 rfl ti3 rfl <| zl 0 rfl sc3 rfl hst rfl rfl <| z1 rfl (runs_convB (by rw [Tryz.underlying3]; rfl) Tryz.underlying5 rfl) ?_; refine ze rfl (runs_litB (bs := three s) rfl Tryz.underlying52 ti5 (by decide) rfl rfl rfl hst) ?_; clear hst; rintro u4 w ⟨I4, hI4, hst, h4⟩; replace hv := hv.mono hI4; replace h3 := h3.mono hI4; replace hle := hle.trans hI4; refine zS rfl rfl <| zN <| ze rfl (runs_litB0 Tryz.underlying52 ti5 hst) ?_; clear hst; rintro u5 w ⟨Lv5, hst, hg5⟩; refine zm rfl rfl <| ze rfl (runs_appendB Tryz.underlying52 ti5 rfl rfl hst (by assumption) (by assumption) (by (try simp) <;> omega)) ?_; clear hst; rintro u6 w ⟨Lv6, hst, hg6⟩; refine zm rfl rfl <| ze rfl (runs_appendB Tryz.underlying52 ti5 rfl rfl hst (by assumption) (by assumption) (by (try simp) <;> omega)) ?_; clear hst; rintro u7 w ⟨Lv7, hst, hg7⟩; refine zS rfl rfl <| zN <| zm rfl rfl <| zm rfl rfl <| z1 rfl (runs_convB (by rw [Tryz.underlying3]; rfl) Tryz.underlying5 rfl) ?_; refine zm rfl rfl <| z1 rfl (runs_convB (by rw [Tryz.underlying3]; rfl) Tryz.underlying5 rfl) ?_; refine zm rfl rfl <| z1 rfl (RdL.len Tryz.underlying52 rfl (by assumption)) ?_; refine z1 rfl (runs_convB (by rw [Tryz.underlying3]; rfl) Tryz.underlying5 rfl) ?_; refine ze rfl (runs_litB (bs := [_, _, _]) rfl Tryz.underlying52 ti5 (by decide) rfl rfl rfl hst) ?_; clear hst; rintro u8 w ⟨I8, hI8, hst, h8⟩; replace hv := hv.mono hI8; replace h3 := h3.mono hI8; replace h4 := h4.mono hI8; replace hle := hle.trans hI8; refine ze rfl (runs_appendB Tryz.underlying52 ti5 rfl rfl hst (by assumption) (by assumption) (by (try simp) <;> omega)) ?_; clear hst; rintro u9 w ⟨Lv9, hst, hg9⟩; refine zS rfl rfl <| zN <| zm rfl rfl <| zm rfl rfl <| ze rfl (runs_appendB Tryz.underlying52 ti5 rfl rfl hst (by assumption) (by assumption) (by (try simp) <;> omega)) ?_; clear hst; rintro u10 w ⟨Lv10, hst, hg10⟩; refine zS rfl rfl <| zN <| zm rfl rfl <| zm rfl rfl <| z1 rfl (Grow.len Tryz.underlying52 rfl (by assumption)) ?_
            refine z1 rfl (runs_sub rfl rfl (by simp <;> omega)) ?_; refine ze rfl (runs_appendZ (m := 19 - b.length) Tryz.underlying52 ti5 Tryz.underlying3 rfl (by simp [ev, Env.get]; omega) hst (by assumption) (by simp <;> omega)) ?_; clear hst; rintro u11 w ⟨Lv11, hst, hg11⟩; refine zS rfl rfl <| zN <| zm rfl rfl <| zm rfl rfl <| ze rfl (runs_appendB Tryz.underlying52 ti5 rfl rfl hst (by assumption) (by assumption) (by (try simp) <;> omega)) ?_; clear hst; rintro u12 w ⟨Lv12, hst, hg12⟩; refine zm rfl rfl <| ze rfl (runs_appendB Tryz.underlying52 ti5 rfl rfl hst (by assumption) (by assumption) (by (try simp) <;> omega)) ?_; clear hst; rintro u13 w ⟨Lv13, hst, hg13⟩; refine zS rfl rfl <| zS rfl rfl <| zM <| CW.ret <| AQ.ret2 rfl rfl rfl ?_
            have hs : sealM e s p n b = true := by
              unfold sealM
              cases hm : mayM e s <;> simp_all <;> omega
            rw [hs]; exact ⟨_, _, _, hle, rfl, St.sub hst (List.Sublist.append_left (List.sublist_cons_self _ _) _), by assumption⟩
theorem seal_spec {w0 w : World} {I : Imm} {L : Own} (hst : St w0 w I L) (e s p n : Int) {v : Value} {b : List UInt8} (hv : RdB I v b) (hb : b.length ≤ 9223372036854775807) :
    Calls Tryz.prog 67 #[.agg #[.int .i64 e, .int .i64 s], .int .i64 p, .int .i64 n, v] w fun r w' => ∃ I' v', Imm.le I I' ∧ r = .returned (.tuple #[v', .int .i64 (if sealM e s p n b then 0 else 1)]) ∧ St w0 w' I' L ∧ RdB I' v' (if sealM e s p n b then sealB e s p n b else []) := by
  refine (seal_own hst e s p n hv hb).mono fun e w' ⟨I1, v', Lv, h0, h1, h2, h3⟩ => ?_
  obtain ⟨I', hI, hst, hr⟩ := GrowB.freeze h3 h2; exact ⟨I', v', h0.trans hI, h1, hst, hr⟩
end Go.Proofs.YtadgbifmiooikaaGreatX
namespace Go.Proofs.YtadgbifmiooikaaGreatX
set_option linter.unusedVariables false
set_option linter.unusedSimpArgs false
open Go Go.RowKit Go.Proofs
attribute [local simp] two_length three_length
set_option maxRecDepth 100000 in
set_option maxHeartbeats 1000000 in
theorem bytes_spec {w0 w : World} {I : Imm} {L : Own} (hst : St w0 w I L) (n size : Int) (hn : i64ok n) (hs : size ≤ 1000000) :
    Calls Tryz.prog 37 #[.int .i64 n, .int .i64 size] w fun e w' => ∃ I' v', Imm.le I I' ∧ e = .returned v' ∧ St w0 w' I' L ∧ RdB I' v' (bytesOf n size) := by
  unfold i64ok at hn; refine enter Tryz.func37 rfl (N := 28) rfl rfl ?_
  simp only [zA, zB, zC, zD, zE, Nat.reduceAdd]
  have hle := Imm.le.refl I; refine zR <| zS rfl rfl <| zN <| zm rfl rfl <| z1 rfl (runs_max rfl rfl) ?_; obtain ⟨m, hm⟩ : ∃ m : Nat, m = size.toNat := ⟨_, rfl⟩
  have hmx : (if (0 : Int) > size then (0 : Int) else size) = (m : Int) := by split <;> omega
  rw [hmx]; refine ze rfl (runs_makeSlice (n := m) Tryz.underlying52 ti5 rfl hst (by omega) (by unfold maxLen; omega)) ?_; clear hst; rintro _ w ⟨b1, rfl, hst⟩; refine zS rfl rfl ?_; rw [made_b8] at hst; refine zM <| zk <| zR <| zm rfl rfl <| z1 rfl (runs_lenL Tryz.underlying52 rfl) <| zm rfl rfl <| zM <| CW.block <| CW.loop Nat (fun k w => St w0 w I ((b1, .cells ((bytesTo n m k).map b8).toArray 5) :: L) ∧ k ≤ m) (fun k => [(0, .int .i64 n), (5, .slice (some ⟨b1, 0, none⟩) m m), (11, .int .i64 (m : Int)), (12, .int .i64 (k : Int))]) (fun k => m - k) ⟨0, ⟨by rw [bytesTo_zero]; exact hst, Nat.zero_le _⟩, ⟨rfl, rfl, rfl, rfl, trivial⟩⟩ ?_; rintro k w ⟨hst, hk⟩; refine zR <| z1 rfl (runs_lss rfl rfl) <| zM <| zk <| zb rfl (fun hc13 => ?_) (fun hc13 => ?_)
  · have hcb13 := hc13; (try simp only [dY, dF] at hc13); refine zj <| za <| zk <| CW.block <| zR <| zm rfl rfl <| zS rfl rfl <| zM <| zg <| zm rfl rfl ?_; refine zm rfl rfl <| zm rfl rfl <| zm rfl rfl <| zm rfl rfl ?_; refine z1 rfl (runs_quo rfl rfl (by decide)) ?_; refine z1 rfl (runs_or rfl rfl) <| z1 rfl (runs_mulW rfl rfl) <| z1 rfl (runs_addW rfl rfl) <| z1 rfl (runs_convB (by rw [Tryz.underlying3]; rfl) Tryz.underlying5 rfl) ?_; refine z1 rfl (runs_indexAddr0 Tryz.underlying52 ti5 rfl rfl (by omega)) ?_; refine z0 (runs_store1' ti5 rfl rfl hst (k := 0) rfl (by simp [bytesTo_length hk]; omega) (NoFz.zero _) rfl) ?_; clear hst; rintro w hst; (try simp only [sZ, sS] at hst); refine zd <| zh <| za <| zg <| z1 rfl (runs_add rfl rfl (by omega)) ?_; refine zm rfl rfl <| zd <| AQ.again (k + 1) ⟨?_, by omega⟩ ⟨rfl, rfl, rfl, rfl, trivial⟩ (by omega)
    have e : (0 + (k : Int).toNat * 1) = k := by omega
    have h9 := set_b8 (bytesTo n m k) k (byteAt n k); rw [bytesTo_set (by omega)] at h9; rw [← h9]
    simp only [List.set_cons_zero, e] at hst
    exact hst
  · have hcb13 := hc13; (try simp only [dY, dF] at hc13); refine CW.exit ?_; refine AQ.past_exit <| AQ.past_exit <| AQ.block_hit <| za <| zR <| zm rfl rfl <| zS rfl rfl <| zM <| CW.ret <| z9 rfl rfl ?_
    have : k = m := by omega
    subst this; rw [bytesTo_end] at hst; obtain ⟨I', hI, hst, hr⟩ := RdB.of_block (n := k) (by simp) hst (by unfold maxLen; omega); exact ⟨I', _, hI, rfl, hst, by unfold bytesOf; rw [← hm]; exact hr⟩
end Go.Proofs.YtadgbifmiooikaaGreatX
namespace Go.Proofs.YtadgbifmiooikaaGreatX
set_option linter.unusedVariables false
set_option linter.unusedSimpArgs false
open Go Go.RowKit Go.Proofs
attribute [local simp] two_length three_length
set_option maxRecDepth 100000 in
set_option maxHeartbeats 1000000 in
theorem open_spec {w0 w : World} {I : Imm} {L : Own} (hst : St w0 w I L) {v : Value} {s : List UInt8} (hv : RdB I v s) (hb : s.length ≤ 140737488355328) :
    Calls Tryz.prog 110 #[v] w fun r w' => ∃ I' v', Imm.le I I' ∧ r = .returned (.tuple #[.agg #[.int .i64 (openR s).e, .int .i64 (openR s).q], .int .i64 (openR s).p, .int .i64 (openR s).n, v', .int .i64 (openR s).err]) ∧ St w0 w' I' L ∧ RdB I' v' (openR s).b := by
  refine enter Tryz.func110 rfl (N := 84) rfl rfl ?_
  simp only [zA, zB, zC, zD, zE, Nat.reduceAdd]
  have hle := Imm.le.refl I; refine zR <| ze rfl (runs_alloc ti124 hst) ?_; clear hst; rintro _ w ⟨b1, rfl, hst⟩; refine zS rfl rfl <| zS rfl rfl <| zS rfl rfl <| zS rfl rfl <| zM <| zk <| zR <| zm rfl rfl <| z1 rfl (RdL.len Tryz.underlying52 rfl (by assumption)) ?_; refine z1 rfl (runs_neI rfl rfl) <| zm rfl rfl <| zi (t := 12) rfl (fun hb12 => ?_) (fun hb12 => ?_)
  · have hb12p := hb12; (try simp only [dY, dF] at hb12p); refine zH rfl rfl rfl rfl rfl rfl rfl rfl hb12 <| zG rfl rfl rfl rfl rfl rfl hb12 <| zt rfl rfl hb12 rfl <| zM <| CW.cond_true rfl ?_; refine zR <| z1 rfl (runs_buildF (cells := [_, _]) bz124 rfl rfl rfl rfl rfl) ?_; refine zw 0 ti124 rfl rfl hst rfl rfl rfl rfl ?_; clear hst; rintro w hst; (try simp only [sZ, sS] at hst); refine zS rfl rfl <| zS rfl rfl <| zS rfl rfl <| zS rfl rfl <| zM <| CW.ret <| zr <| AQ.retL (rs := [.cell 2 124, .tmp 3, .tmp 4, .tmp 5, .tmp 6]) (vs := [_, _, _, _, _]) rfl ⟨⟨_, rfl, hst.loadN (vs := [_, _]) (k := 0) ag124 ti124 rfl rfl rfl⟩, rfl, rfl, rfl, rfl, trivial⟩ (by simp) ?_; rw [openR_bad (openOk_len (by omega))]; exact ⟨_, _, hle, rfl, St.drop1 (L := L) hst, RdL.nil 1⟩
  · have hb12p := hb12; (try simp only [dY, dF] at hb12p)
    have hlen : s.length = 32 := by omega
    refine zo rfl rfl rfl rfl hb12 <| zm rfl rfl <| zo rfl rfl rfl rfl hb12 <| z1 rfl (RdL.indexAddr Tryz.underlying52 ti5 (by decide) rfl rfl (by assumption) (by omega)) ?_; refine zo rfl rfl rfl rfl hb12 <| z1 rfl (runs_load1 sc5 rfl (hst.cell_imm (RdB.at (by assumption) (by omega) (by omega)))) ?_; refine zo rfl rfl rfl rfl hb12 <| z1 rfl (runs_conv64 (by rw [Tryz.underlying5]; rfl) Tryz.underlying3 rfl (bat_ok _ _)) ?_; refine zo rfl rfl rfl rfl hb12 <| z1 rfl (runs_gtr rfl rfl) <| zn rfl rfl hb12 rfl <| zM <| zb rfl (fun hc18 => ?_) (fun hc18 => ?_)
    · have hcb18 := hc18; (try simp only [dY, dF] at hc18); refine zR <| z1 rfl (runs_buildF (cells := [_, _]) bz124 rfl rfl rfl rfl rfl) ?_; refine zw 0 ti124 rfl rfl hst rfl rfl rfl rfl ?_; clear hst; rintro w hst; (try simp only [sZ, sS] at hst); refine zS rfl rfl <| zS rfl rfl <| zS rfl rfl <| zS rfl rfl <| zM <| CW.ret <| zr <| AQ.retL (rs := [.cell 2 124, .tmp 3, .tmp 4, .tmp 5, .tmp 6]) (vs := [_, _, _, _, _]) rfl ⟨⟨_, rfl, hst.loadN (vs := [_, _]) (k := 0) ag124 ti124 rfl rfl rfl⟩, rfl, rfl, rfl, rfl, trivial⟩ (by simp) ?_; rw [openR_bad (openOk_long hc18)]; exact ⟨_, _, hle, rfl, St.drop1 (L := L) hst, RdL.nil 1⟩
    · have hcb18 := hc18; (try simp only [dY, dF] at hc18); refine zj <| za <| zk ?_; refine CW.draw (FSt w0 I L) (.q 0 (.q 1 (.q 2 (.q 3 (.q 4 (.q 5 (.q 6 (.q 7 (.q 8 (.q 9 (.q 10 (.q 11 (.q 12 (.q 13 (.q 14 (.q 15 (.q 16 (.q 17 (.q 18 (.q 19 (.q 20 (.q 21 (.q 22 (.q 23 (.q 24 (.q 25 (.q 26 (.l 27 .nil)))))))))))))))))))))))))))) follows (by kernel_rfl) ⟨_, Imm.le.refl _, hst.draw.drop1⟩ ?_; replace hst := hst.draw; refine ym rfl rfl rfl <| DRW.q rfl rfl (fun w' hF => RdL.indexAddr Tryz.underlying52 ti5 (by decide) rfl rfl (by assumption) (by omega)) ?_; refine DRW.q rfl rfl (FSt.load1 sc5 rfl (RdB.at (by assumption) (by omega) (by omega))) ?_; refine DRW.q rfl rfl (fun w' hF => runs_conv64 (by rw [Tryz.underlying5]; rfl) Tryz.underlying3 rfl (bat_ok _ _)) ?_; refine DRW.q rfl rfl (fun w' hF => runs_shlBat (n := 8) rfl rfl (by decide)) ?_; refine ym rfl rfl rfl <| DRW.q rfl rfl (fun w' hF => RdL.indexAddr Tryz.underlying52 ti5 (by decide) rfl rfl (by assumption) (by omega)) ?_; refine DRW.q rfl rfl (FSt.load1 sc5 rfl (RdB.at (by assumption) (by omega) (by omega))) ?_; refine DRW.q rfl rfl (fun w' hF => runs_conv64 (by rw [Tryz.underlying5]; rfl) Tryz.underlying3 rfl (bat_ok _ _)) ?_; refine DRW.q rfl rfl (fun w' hF => runs_or2 rfl rfl) ?_; refine ym rfl rfl rfl <| DRW.q rfl rfl (fun w' hF => RdL.indexAddr Tryz.underlying52 ti5 (by decide) rfl rfl (by assumption) (by omega)) ?_; refine DRW.q rfl rfl (FSt.load1 sc5 rfl (RdB.at (by assumption) (by omega) (by omega))) ?_; refine DRW.q rfl rfl (fun w' hF => runs_conv64 (by rw [Tryz.underlying5]; rfl) Tryz.underlying3 rfl (bat_ok _ _)) ?_; refine DRW.q rfl rfl (fun w' hF => runs_shlBat (n := 16) rfl rfl (by decide)) ?_; refine ym rfl rfl rfl <| DRW.q rfl rfl (fun w' hF => RdL.indexAddr Tryz.underlying52 ti5 (by decide) rfl rfl (by assumption) (by omega)) ?_; refine DRW.q rfl rfl (FSt.load1 sc5 rfl (RdB.at (by assumption) (by omega) (by omega))) ?_; refine DRW.q rfl rfl (fun w' hF => runs_conv64 (by rw [Tryz.underlying5]; rfl) Tryz.underlying3 rfl (bat_ok _ _)) ?_; refine DRW.q rfl rfl (fun w' hF => runs_shlBat (n := 8) rfl rfl (by decide)) ?_; refine DRW.q rfl rfl (fun w' hF => runs_or3a rfl rfl) ?_; refine ym rfl rfl rfl <| DRW.q rfl rfl (fun w' hF => RdL.indexAddr Tryz.underlying52 ti5 (by decide) rfl rfl (by assumption) (by omega)) ?_; refine DRW.q rfl rfl (FSt.load1 sc5 rfl (RdB.at (by assumption) (by omega) (by omega))) ?_; refine DRW.q rfl rfl (fun w' hF => runs_conv64 (by rw [Tryz.underlying5]; rfl) Tryz.underlying3 rfl (bat_ok _ _)) ?_; refine DRW.q rfl rfl (fun w' hF => runs_or3b rfl rfl) ?_; refine DRW.q rfl rfl (fun w' hF => runs_buildF (cells := [_, _]) bz124 rfl rfl rfl rfl rfl) ?_; refine y0 rfl (runs_storeW ti124 rfl rfl hst (k := 0) rfl rfl rfl (NoFz.zero _) rfl) ?_; clear hst; rintro w hst; (try simp only [sZ, sS] at hst); refine ⟨FSt.ofA hst (Imm.le.refl _), ?_⟩; refine DRW.done <| za <| zk ?_; refine CW.drawSt hst (.q 0 (.q 1 (.q 2 (.q 3 (.q 4 (.q 5 (.q 6 (.q 7 (.q 8 (.q 9 (.q 10 (.q 11 (.q 12 (.q 13 (.q 14 (.l 15 (.q 16 (.q 17 (.q 18 .nil))))))))))))))))))) follows (by kernel_rfl) (fun w hst => ?_); refine ym rfl rfl rfl <| DRW.q rfl rfl (fun w' hF => RdL.indexAddr Tryz.underlying52 ti5 (by decide) rfl rfl (by assumption) (by omega)) ?_; refine DRW.q rfl rfl (FSt.load1 sc5 rfl (RdB.at (by assumption) (by omega) (by omega))) ?_; refine DRW.q rfl rfl (fun w' hF => runs_conv64 (by rw [Tryz.underlying5]; rfl) Tryz.underlying3 rfl (bat_ok _ _)) ?_; refine ym rfl rfl rfl <| DRW.q rfl rfl (fun w' hF => RdL.indexAddr Tryz.underlying52 ti5 (by decide) rfl rfl (by assumption) (by omega)) ?_; refine DRW.q rfl rfl (FSt.load1 sc5 rfl (RdB.at (by assumption) (by omega) (by omega))) ?_; refine DRW.q rfl rfl (fun w' hF => runs_conv64 (by rw [Tryz.underlying5]; rfl) Tryz.underlying3 rfl (bat_ok _ _)) ?_; refine ym rfl rfl rfl <| ym rfl rfl rfl ?_
      refine DRW.q rfl rfl (fun w' hF => RdL.indexAddr Tryz.underlying52 ti5 (by decide) rfl rfl (by assumption) (by omega)) ?_; refine DRW.q rfl rfl (FSt.load1 sc5 rfl (RdB.at (by assumption) (by omega) (by omega))) ?_; refine DRW.q rfl rfl (fun w' hF => runs_conv64 (by rw [Tryz.underlying5]; rfl) Tryz.underlying3 rfl (bat_ok _ _)) ?_; refine DRW.q rfl rfl (fun w' hF => runs_add rfl rfl (by have := bat_lt s 7; omega)) ?_; refine DRW.q rfl rfl (fun w' hF => RdL.slice_lh Tryz.underlying52 ti5 rfl rfl rfl (by assumption) (by have := bat_lt s 7; omega)) ?_; refine yC rfl rfl call70 rfl rfl (clone_spec hst (RdB.part hv (lo := 8) (hi := (8 + bat s 7).toNat) (by have := bat_lt s 7; omega) (by have := bat_lt s 7; omega)) (by rw [List.length_take, List.length_drop]; omega)) ?_; clear hst; rintro e w ⟨I62, v62, hI62, rfl, hst, h62⟩; rw [body_of] at h62; replace hv := hv.mono hI62; replace hle := hle.trans hI62; refine ⟨_, rfl, FSt.ofA hst hI62, ?_⟩; refine yS rfl rfl rfl <| yS rfl rfl rfl <| yS rfl rfl rfl <| DRW.done <| za <| zk <| zR <| z1 rfl (runs_loadN (vs := [_, _]) ag124 ti124 rfl hst (k := 0) rfl rfl rfl) ?_; refine zm rfl rfl <| zm rfl rfl <| zm rfl rfl <| zK rfl call67 rfl rfl (seal_spec hst (epochOf s) (seqOf s) (bat s 5) (bat s 6) h62 (by have := bodyOf_length s; omega)) ?_; clear hst; rintro e w ⟨I68, v68, hI68, rfl, hst, h68⟩; replace hv := hv.mono hI68; replace h62 := h62.mono hI68; replace hle := hle.trans hI68; refine ⟨_, rfl, ?_⟩; refine zm rfl rfl <| zx rfl rfl rfl <| zx rfl rfl rfl <| zS rfl rfl <| zS rfl rfl <| zN <| zm rfl rfl <| z1 rfl (runs_neI rfl rfl) <| zm rfl rfl <| zi (t := 73) rfl (fun hb73 => ?_) (fun hb73 => ?_)
      · have hb73p := hb73; (try simp only [dY, dF] at hb73p); refine zH rfl rfl rfl rfl rfl rfl rfl rfl hb73 <| zf rfl rfl rfl rfl hb73 <| zt rfl rfl hb73 rfl <| zM <| CW.cond_true rfl ?_; refine zR <| z1 rfl (runs_buildF (cells := [_, _]) bz124 rfl rfl rfl rfl rfl) ?_; refine zw 0 ti124 rfl rfl hst rfl rfl rfl rfl ?_; clear hst; rintro w hst; (try simp only [sZ, sS] at hst); refine zS rfl rfl <| zS rfl rfl <| zS rfl rfl <| zS rfl rfl <| zM <| CW.ret <| zr <| AQ.retL (rs := [.cell 2 124, .tmp 3, .tmp 4, .tmp 5, .tmp 6]) (vs := [_, _, _, _, _]) rfl ⟨⟨_, rfl, hst.loadN (vs := [_, _]) (k := 0) ag124 ti124 rfl rfl rfl⟩, rfl, rfl, rfl, rfl, trivial⟩ (by simp) ?_
        rw [openR_bad (openOk_mark (by
          cases hs : sealM (epochOf s) (seqOf s) (bat s 5) (bat s 6) (bodyOf s)
          · rfl
          · rw [hs] at hb73p; exact absurd rfl hb73p))]
        exact ⟨_, _, hle, rfl, St.drop1 (L := L) hst, RdL.nil 1⟩
      · have hb73p := hb73; (try simp only [dY, dF] at hb73p)
        have hseal : sealM (epochOf s) (seqOf s) (bat s 5) (bat s 6) (bodyOf s) = true := by
          cases hs : sealM (epochOf s) (seqOf s) (bat s 5) (bat s 6) (bodyOf s)
          · rw [hs] at hb73p; exact absurd (by decide) hb73p
          · rfl
        rw [hseal] at h68; refine zo rfl rfl rfl rfl hb73 <| zm rfl rfl <| zo rfl rfl rfl rfl hb73 <| zm rfl rfl <| zo rfl rfl rfl rfl hb73 <| zK rfl call113 rfl rfl (equal_spec hst h68 hv) ?_; clear hst; rintro e w ⟨rfl, hst⟩; refine ⟨_, rfl, ?_⟩; refine zo rfl rfl rfl rfl hb73 <| z1 rfl (runs_not rfl) <| zn rfl rfl hb73 rfl <| zM <| zb rfl (fun hc78 => ?_) (fun hc78 => ?_)
        · have hcb78 := hc78; (try simp only [dY, dF] at hc78); refine zR <| z1 rfl (runs_buildF (cells := [_, _]) bz124 rfl rfl rfl rfl rfl) ?_; refine zw 0 ti124 rfl rfl hst rfl rfl rfl rfl ?_; clear hst; rintro w hst; (try simp only [sZ, sS] at hst); refine zS rfl rfl <| zS rfl rfl <| zS rfl rfl <| zS rfl rfl <| zM <| CW.ret <| zr <| AQ.retL (rs := [.cell 2 124, .tmp 3, .tmp 4, .tmp 5, .tmp 6]) (vs := [_, _, _, _, _]) rfl ⟨⟨_, rfl, hst.loadN (vs := [_, _]) (k := 0) ag124 ti124 rfl rfl rfl⟩, rfl, rfl, rfl, rfl, trivial⟩ (by simp) ?_; rw [openR_bad (openOk_ne (by simpa [hseal] using hc78))]; exact ⟨_, _, hle, rfl, St.drop1 (L := L) hst, RdL.nil 1⟩
        · have hcb78 := hc78; (try simp only [dY, dF] at hc78); refine zj <| za <| zR <| z1 rfl (runs_loadN (vs := [_, _]) ag124 ti124 rfl hst (k := 0) rfl rfl rfl) ?_; refine zm rfl rfl <| zm rfl rfl <| zm rfl rfl ?_; refine zw 0 ti124 rfl rfl hst rfl rfl rfl rfl ?_; clear hst; rintro w hst; (try simp only [sZ, sS] at hst); refine zS rfl rfl <| zS rfl rfl <| zS rfl rfl <| zS rfl rfl <| zM <| CW.ret <| AQ.retL (rs := [.cell 2 124, .tmp 3, .tmp 4, .tmp 5, .tmp 6]) (vs := [_, _, _, _, _]) rfl ⟨⟨_, rfl, hst.loadN (vs := [_, _]) (k := 0) ag124 ti124 rfl rfl rfl⟩, rfl, rfl, rfl, rfl, trivial⟩ (by simp) ?_; rw [openR_ok (openOk_all hlen (by omega) hseal (by simpa [hseal] using hc78))]; exact ⟨_, _, hle, rfl, St.drop1 (L := L) hst, h62⟩
end Go.Proofs.YtadgbifmiooikaaGreatX
namespace Go.Proofs.YtadgbifmiooikaaGreatX
set_option linter.unusedVariables false
set_option linter.unusedSimpArgs false
open Go Go.RowKit Go.Proofs
set_option maxRecDepth 100000 in
set_option maxHeartbeats 1000000 in
theorem len_spec {w0 w : World} {I : Imm} {L Ld : Own} {d : Value} {S : DS} (hd : DiskO d S Ld) (hst : St w0 w I (Ld ++ L)) :
    Calls Tryz.prog 40 #[d] w fun e w' => e = .returned (.int .i64 (S.secs.length : Nat)) ∧ St w0 w' I (Ld ++ L) := by
  obtain ⟨hb, vl, vp, Ls, Lp, rfl, hstn, hgl, hgp, hok, hsh⟩ := hd.opn hst; clear hst; have hst := hstn; clear hstn; refine enter Tryz.func40 rfl (N := 8) rfl rfl ?_
  simp only [zA, zB, zC, zD, zE, Nat.reduceAdd]
  have hle := Imm.le.refl I; refine zR <| zS rfl rfl <| zN <| zm rfl rfl <| z1 rfl (runs_nilCheck rfl) <| zp rfl rfl U62 rfl ti59 rfl <| zl 0 rfl sc59 rfl hst rfl rfl <| z1 rfl (Grow.len Tryz.underlying59 rfl (by assumption)) ?_; refine zS rfl rfl <| zM <| CW.ret <| z9 rfl rfl ?_; exact ⟨rfl, hsh hst⟩
set_option maxRecDepth 100000 in
set_option maxHeartbeats 1000000 in
theorem down_spec {w0 w : World} {I : Imm} {L Ld : Own} {d : Value} {S : DS} (hd : DiskO d S Ld) (hst : St w0 w I (Ld ++ L)) :
    Calls Tryz.prog 22 #[d] w fun e w' => e = .returned (.bool S.down) ∧ St w0 w' I (Ld ++ L) := by
  obtain ⟨hb, vl, vp, Ls, Lp, rfl, hstn, hgl, hgp, hok, hsh⟩ := hd.opn hst; clear hst; have hst := hstn; clear hstn; refine enter Tryz.func22 rfl (N := 7) rfl rfl ?_
  simp only [zA, zB, zC, zD, zE, Nat.reduceAdd]
  have hle := Imm.le.refl I; refine zR <| zS rfl rfl <| zN <| zm rfl rfl <| z1 rfl (runs_nilCheck rfl) <| zp rfl rfl U62 rfl ti4 rfl <| zl 0 rfl sc4 rfl hst rfl rfl <| zS rfl rfl <| zM <| CW.ret ?_; refine z9 rfl rfl ?_; exact ⟨rfl, hsh hst⟩
set_option maxRecDepth 100000 in
set_option maxHeartbeats 1000000 in
theorem dmay_spec {w0 w : World} {I : Imm} {L Ld : Own} {d : Value} {S : DS} (hd : DiskO d S Ld) (hst : St w0 w I (Ld ++ L)) (at_ : Int) :
    Calls Tryz.prog 66 #[d, .int .i64 at_] w fun e w' => e = .returned (.int .i64 (mayR S at_)) ∧ St w0 w' I (Ld ++ L) := by
  obtain ⟨hb, vl, vp, Ls, Lp, rfl, hstn, hgl, hgp, hok, hsh⟩ := hd.opn hst; clear hst; have hst := hstn; clear hstn; refine enter Tryz.func66 rfl (N := 22) rfl rfl ?_
  simp only [zA, zB, zC, zD, zE, Nat.reduceAdd]
  have hle := Imm.le.refl I; refine zR <| zS rfl rfl <| zM <| zk <| CW.block <| zR <| zm rfl rfl <| z1 rfl (runs_nilCheck rfl) <| zp rfl rfl U62 rfl ti4 rfl <| zl 0 rfl sc4 rfl hst rfl rfl ?_; refine zS rfl rfl <| zM ?_; refine zb rfl (fun hc5 => ?_) (fun hc5 => ?_)
  · have hcb5 := hc5; (try simp only [dY, dF] at hc5); refine zR <| zS rfl rfl <| zM <| CW.ret <| AQ.block_ret <| zr <| z9 rfl rfl ?_; exact ⟨by unfold mayR; rw [if_pos (by assumption)], hsh hst⟩
  · have hcb5 := hc5; (try simp only [dY, dF] at hc5); refine zR <| zm rfl rfl <| z1 rfl (runs_lss rfl rfl) <| zm rfl rfl <| zi (t := 13) rfl (fun hb13 => ?_) (fun hb13 => ?_)
    · have hb13p := hb13; (try simp only [dY, dF] at hb13p); refine zH rfl rfl rfl rfl rfl rfl rfl rfl hb13 <| zH rfl rfl rfl rfl rfl rfl rfl rfl hb13 <| zf rfl rfl rfl rfl hb13 <| zt rfl rfl hb13 rfl <| zS rfl rfl <| zM <| CW.cond_true rfl ?_; refine zR <| zS rfl rfl <| zM <| CW.ret <| AQ.block_ret <| zr <| z9 rfl rfl ?_; exact ⟨by unfold mayR; rw [if_neg (by rw [hcb5]; decide), if_pos (by omega)], hsh hst⟩
    · have hb13p := hb13; (try simp only [dY, dF] at hb13p); refine zo rfl rfl rfl rfl hb13 <| zm rfl rfl <| zo rfl rfl rfl rfl hb13 <| zm rfl rfl <| zo rfl rfl rfl rfl hb13 <| z1 rfl (runs_nilCheck rfl) <| zo rfl rfl rfl rfl hb13 <| zp rfl rfl U62 rfl ti59 rfl <| zo rfl rfl rfl rfl hb13 <| zl 0 rfl sc59 rfl hst rfl rfl ?_; refine zo rfl rfl rfl rfl hb13 ?_; refine z1 rfl (Grow.len Tryz.underlying59 rfl (by assumption)) ?_; refine zo rfl rfl rfl rfl hb13 <| z1 rfl (runs_geq rfl rfl) <| zn rfl rfl hb13 rfl <| zS rfl rfl <| zM <| zb rfl (fun hc10 => ?_) (fun hc10 => ?_)
      · have hcb10 := hc10; (try simp only [dY, dF] at hc10); refine zR <| zS rfl rfl <| zM <| CW.ret <| AQ.block_ret <| zr <| z9 rfl rfl ?_; exact ⟨by unfold mayR; rw [if_neg (by rw [hcb5]; decide), if_pos (by omega)], hsh hst⟩
      · have hcb10 := hc10; (try simp only [dY, dF] at hc10); refine zj <| zh <| za <| zR <| zS rfl rfl <| zM <| CW.ret <| z9 rfl rfl ?_; exact ⟨by unfold mayR; rw [if_neg (by rw [hcb5]; decide), if_neg (by omega)], hsh hst⟩
set_option maxRecDepth 100000 in
set_option maxHeartbeats 1000000 in
theorem kept_spec {w0 w : World} {I : Imm} {L : Own} (hst : St w0 w I L) (n : Int) :
    Calls Tryz.prog 35 #[.int .i64 n] w fun e w' => e = .returned (.int .i64 (keptR n)) ∧ St w0 w' I L := by
  refine enter Tryz.func35 rfl (N := 8) rfl rfl ?_
  simp only [zA, zB, zC, zD, zE, Nat.reduceAdd]
  have hle := Imm.le.refl I; refine zR <| zS rfl rfl <| zM <| zk <| zR <| zm rfl rfl <| zM <| CW.block <| zR <| z1 rfl (runs_eqI rfl rfl) ?_; refine zS rfl rfl <| zM ?_; refine zb rfl (fun hc4 => ?_) (fun hc4 => ?_)
  · have hcb4 := hc4; (try simp only [dY, dF] at hc4); refine zR <| zS rfl rfl <| zM <| CW.ret <| AQ.block_ret <| zr <| z9 rfl rfl ?_; exact ⟨by unfold keptR; rw [if_pos (by omega)], hst⟩
  · have hcb4 := hc4; (try simp only [dY, dF] at hc4); refine zR <| z1 rfl (runs_eqI rfl rfl) <| zS rfl rfl <| zM <| zb rfl (fun hc6 => ?_) (fun hc6 => ?_)
    · have hcb6 := hc6; (try simp only [dY, dF] at hc6); refine zR <| zS rfl rfl <| zM <| CW.ret <| AQ.block_ret <| zr <| z9 rfl rfl ?_; exact ⟨by unfold keptR; rw [if_neg (by omega), if_pos (by omega)], hst⟩
    · have hcb6 := hc6; (try simp only [dY, dF] at hc6); refine zj <| zh <| za <| zR <| zS rfl rfl <| zM <| CW.ret <| z9 rfl rfl ?_; exact ⟨by unfold keptR; rw [if_neg (by omega), if_neg (by omega)], hst⟩
set_option maxRecDepth 100000 in
set_option maxHeartbeats 1000000 in
theorem limit_spec {w0 w : World} {I : Imm} {L Ld : Own} {d : Value} {S : DS} (hd : DiskO d S Ld) (hst : St w0 w I (Ld ++ L)) (n : Int) (hn : i64ok n) :
    Calls Tryz.prog 11 #[d, .int .i64 n] w fun e w' => e = .returned (.tuple #[]) ∧ ∃ Ld', St w0 w' I (Ld' ++ L) ∧ DiskO d { S with left := if n > -1 then n else -1 } Ld' := by
  obtain ⟨hb, vl, vp, Ls, Lp, rfl, hstn, hgl, hgp, hok, hsh⟩ := hd.opn hst; clear hst; have hst := hstn; clear hstn; refine enter Tryz.func11 rfl (N := 9) rfl rfl ?_
  simp only [zA, zB, zC, zD, zE, Nat.reduceAdd]
  have hle := Imm.le.refl I; refine zg <| zm rfl rfl <| zm rfl rfl <| z1 rfl (runs_max rfl rfl) <| z1 rfl (runs_nilCheck rfl) <| zp rfl rfl U62 rfl ti3 rfl ?_; refine zy 0 ti3 rfl rfl hst rfl rfl rfl ?_; clear hst; rintro w hst; (try simp only [sZ, sS] at hst); refine zd <| AQ.end0 rfl ?_; obtain ⟨Ld', h1, h2⟩ := DiskO.shut (S := { S with left := if n > -1 then n else -1 }) hst hgl hgp ⟨hok.1, hok.2.1, hok.2.2.1, by unfold i64ok at hn; dsimp only; split <;> omega⟩; exact ⟨rfl, Ld', h1, h2⟩
def newR (n : Int) : DS := ⟨List.replicate (if n ≤ 0 then 0 else if n ≥ 1024 then 1024 else n.toNat) (List.replicate 32 0), [], -1, false⟩
theorem newR_ok (n : Int) : DOk (newR n) := by
  refine ⟨?_, ?_, by simp [newR], by show -1 ≤ (-1 : Int) ∧ (-1 : Int) ≤ 9223372036854775807; decide⟩
  · simp only [newR, List.length_replicate]; (repeat' split) <;> omega
  · intro s hs
    simp only [newR] at hs
    rw [List.eq_of_mem_replicate hs, List.length_replicate]
theorem made_secs (n : Nat) : madeCells (Value.agg #[(.int .u8 0), (.int .u8 0), (.int .u8 0), (.int .u8 0), (.int .u8 0), (.int .u8 0), (.int .u8 0), (.int .u8 0), (.int .u8 0), (.int .u8 0), (.int .u8 0), (.int .u8 0), (.int .u8 0), (.int .u8 0), (.int .u8 0), (.int .u8 0), (.int .u8 0), (.int .u8 0), (.int .u8 0), (.int .u8 0), (.int .u8 0), (.int .u8 0), (.int .u8 0), (.int .u8 0), (.int .u8 0), (.int .u8 0), (.int .u8 0), (.int .u8 0), (.int .u8 0), (.int .u8 0), (.int .u8 0), (.int .u8 0)]).cells (n * 32) = ((List.replicate n (List.replicate 32 (0 : UInt8))).flatMap (·.map b8)).toArray := by
  have e1 : (List.replicate n (List.replicate 32 (0 : UInt8))).flatMap (·.map b8) = List.replicate (n * 32) (b8 0) := by
    rw [List.flatMap_replicate, List.map_replicate, List.flatten_replicate_replicate]
  rw [e1]; unfold madeCells
  apply Array.ext
  · simp
  · intro i h1 h2; have hi : i % 32 < 32 := Nat.mod_lt _ (by decide)
    simp only [List.getElem_toArray, List.getElem_replicate, Array.getElem_map, Array.getElem_range]
    show (#[(.int .u8 0), (.int .u8 0), (.int .u8 0), (.int .u8 0), (.int .u8 0), (.int .u8 0), (.int .u8 0), (.int .u8 0), (.int .u8 0), (.int .u8 0), (.int .u8 0), (.int .u8 0), (.int .u8 0), (.int .u8 0), (.int .u8 0), (.int .u8 0), (.int .u8 0), (.int .u8 0), (.int .u8 0), (.int .u8 0), (.int .u8 0), (.int .u8 0), (.int .u8 0), (.int .u8 0), (.int .u8 0), (.int .u8 0), (.int .u8 0), (.int .u8 0), (.int .u8 0), (.int .u8 0), (.int .u8 0), (.int .u8 0)] : Array Value)[i % 32]! = b8 0
    generalize i % 32 = k at hi
    match k, hi with
    | 0, _ => rfl
    | 1, _ => rfl
    | 2, _ => rfl
    | 3, _ => rfl
    | 4, _ => rfl
    | 5, _ => rfl
    | 6, _ => rfl
    | 7, _ => rfl
    | 8, _ => rfl
    | 9, _ => rfl
    | 10, _ => rfl
    | 11, _ => rfl
    | 12, _ => rfl
    | 13, _ => rfl
    | 14, _ => rfl
    | 15, _ => rfl
    | 16, _ => rfl
    | 17, _ => rfl
    | 18, _ => rfl
    | 19, _ => rfl
    | 20, _ => rfl
    | 21, _ => rfl
    | 22, _ => rfl
    | 23, _ => rfl
    | 24, _ => rfl
    | 25, _ => rfl
    | 26, _ => rfl
    | 27, _ => rfl
    | 28, _ => rfl
    | 29, _ => rfl
    | 30, _ => rfl
    | 31, _ => rfl
    | n + 32, h => exact absurd h (by omega)
set_option maxRecDepth 100000 in
set_option maxHeartbeats 1000000 in
theorem new_spec {w0 w : World} {I : Imm} {L : Own} (hst : St w0 w I L) (n : Int) :
    Calls Tryz.prog 8 #[.int .i64 n] w fun e w' => ∃ d Ld, e = .returned d ∧ d.oneCell' = true ∧ St w0 w' I (Ld ++ L) ∧ DiskO d (newR n) Ld ∧ ∃ a, d = .pointer (some a) := by
  refine enter Tryz.func8 rfl (N := 9) rfl rfl ?_
  simp only [zA, zB, zC, zD, zE, Nat.reduceAdd]
  have hle := Imm.le.refl I; refine zR <| zS rfl rfl <| zN <| zm rfl rfl <| z1 rfl (runs_max rfl rfl) <| z1 rfl (runs_min rfl rfl) ?_; obtain ⟨m, hm, hm2⟩ : ∃ m : Nat, (if (1024 : Int) < (if n > 0 then n else 0) then 1024 else (if n > 0 then n else 0)) = (m : Int) ∧ m = (if n ≤ 0 then 0 else if n ≥ 1024 then 1024 else n.toNat) := ⟨if n ≤ 0 then 0 else if n ≥ 1024 then 1024 else n.toNat, by (repeat' split) <;> omega, rfl⟩; rw [hm]
  have hm3 : m ≤ 1024 := by rw [hm2]; (repeat' split) <;> omega
  refine ze rfl (runs_makeSlice (n := m) Tryz.underlying59 ti76 rfl hst (by omega) (by unfold maxLen; omega)) ?_; clear hst; rintro _ w ⟨b1, rfl, hst⟩; rw [made_secs] at hst; refine z1 rfl (runs_buildF (cells := [_, _, _, _]) bz62 rfl rfl rfl rfl rfl) <| ze rfl (runs_box rfl hst) ?_; clear hst; rintro _ w ⟨b2, rfl, hst⟩; refine zS rfl rfl <| zM <| CW.ret <| z9 rfl rfl ?_
  have hS : (newR n).secs = List.replicate m (List.replicate 32 0) := by unfold newR; rw [hm2]
  have hlen : ((List.replicate m (List.replicate 32 (0 : UInt8))).flatMap (·.map b8)).length = m * 32 := by
    rw [List.flatMap_replicate, List.map_replicate, List.flatten_replicate_replicate, List.length_replicate]
  obtain ⟨Ld, h1, h2⟩ := DiskO.shut (S := newR n) (Lp := []) hst (Ls := [(b1, _)]) (vl := .slice (some ⟨b1, 0, none⟩) m m) ⟨by rw [hS]; rw [hlen, List.length_replicate], by
    intro u hu; rw [hS] at hu; obtain ⟨s, hs1, hs2⟩ := List.mem_flatMap.1 hu
    exact b8_one s u hs2, .inr ⟨b1, m, _, by rw [hS, List.length_replicate], rfl, by rw [hS, List.length_replicate]; exact Nat.le_refl _, by unfold maxLen; omega, by rw [List.size_toArray, hlen], by rw [hS, List.length_replicate]; exact List.take_of_length_le (by rw [hlen]; exact Nat.le_refl _)⟩⟩ (Grow.nil _ _) (newR_ok n)
  exact ⟨_, Ld, rfl, rfl, h1, h2, _, rfl⟩
set_option maxRecDepth 100000 in
set_option maxHeartbeats 1000000 in
theorem sclone_own {w0 w : World} {I : Imm} {L : Own} (hst : St w0 w I L) {v : Value} {bs : List UInt8} (hv : RdB I v bs) (hb : bs.length ≤ 140737488355328) :
    Calls Tryz.prog 127 #[v] w fun e w' => ∃ v' Lv, e = .returned v' ∧ St w0 w' I (Lv ++ L) ∧ GrowB 5 v' bs Lv := by
  have hv0 := hv; obtain ⟨h1, h2, A, cap, rfl, h3, h4⟩ := hv0; refine enter Tryz.func127 rfl (N := 8) rfl rfl ?_
  simp only [zA, zB, zC, zD, zE, Nat.reduceAdd]
  have hle := Imm.le.refl I; refine zR <| zS rfl rfl <| zM <| zk <| zR <| zm rfl rfl <| z1 rfl (runs_eq_nilslice Tryz.underlying52 rfl) <| zM <| zb rfl (fun hc4 => ?_) (fun hc4 => ?_)
  · have hcb4 := hc4; (try simp only [dY, dF] at hc4); refine zR <| zS rfl rfl <| zM <| CW.ret <| zr <| z9 rfl rfl ?_
    have : A = none := by simpa using hcb4
    subst this
    have h0 : bs = [] := by
      cases bs with
      | nil => rfl
      | cons c r => obtain ⟨a, h, _⟩ := h4 0 (b8 c) (by simp); cases h
    subst h0; exact ⟨_, [], rfl, hst, GrowB.nil _⟩
  · have hcb4 := hc4; (try simp only [dY, dF] at hc4); refine zj <| za <| zR <| ze rfl (runs_litB0 Tryz.underlying52 ti5 hst) ?_; clear hst; rintro u1 w ⟨Lv1, hst, hg1⟩; refine zm rfl rfl <| ze rfl (runs_appendB Tryz.underlying52 ti5 rfl rfl hst (by assumption) (by assumption) (by (try simp) <;> omega)) ?_; clear hst; rintro u2 w ⟨Lv2, hst, hg2⟩; refine zS rfl rfl <| zM <| CW.ret <| z9 rfl rfl ?_; exact ⟨_, _, rfl, hst, hg2⟩
set_option maxRecDepth 100000 in
set_option maxHeartbeats 1000000 in
theorem read_own {w0 w : World} {I : Imm} {L Ld : Own} {d : Value} {S : DS} (hd : DiskO d S Ld) (hst : St w0 w I (Ld ++ L)) (at_ : Int) :
    Calls Tryz.prog 109 #[d, .int .i64 at_] w fun e w' => ∃ I' v' Lv, Imm.le I I' ∧ e = .returned (.tuple #[v', .int .i64 (mayR S at_)]) ∧ St w0 w' I' (Lv ++ (Ld ++ L)) ∧ GrowB 5 v' (if mayR S at_ = 0 then readR S at_ else []) Lv := by
  refine enter Tryz.func109 rfl (N := 41) rfl rfl ?_
  simp only [zA, zB, zC, zD, zE, Nat.reduceAdd]
  have hle := Imm.le.refl I; refine zR <| zS rfl rfl <| zS rfl rfl <| zM <| zk <| zR <| zm rfl rfl <| zm rfl rfl <| zK rfl call66 rfl rfl (dmay_spec hd hst at_) ?_; clear hst; rintro e w ⟨rfl, hst⟩; refine ⟨_, rfl, ?_⟩; refine zS rfl rfl <| zN <| zm rfl rfl <| z1 rfl (runs_neI rfl rfl) <| zM <| zb rfl (fun hc14 => ?_) (fun hc14 => ?_)
  · have hcb14 := hc14; (try simp only [dY, dF] at hc14); refine zR <| zm rfl rfl <| zS rfl rfl <| zS rfl rfl <| zM <| CW.ret <| zr <| AQ.ret2 rfl rfl rfl ?_; exact ⟨I, _, [], Imm.le.refl I, rfl, hst, by rw [if_neg (by omega)]; exact GrowB.nil _⟩
  · have hcb14 := hc14; (try simp only [dY, dF] at hc14)
    have hm0 : mayR S at_ = 0 := by omega
    obtain ⟨hdn, ha0, ha1⟩ := mayR_ok hm0; obtain ⟨hb, vl, vp, Ls, Lp, rfl, hLd, hgl, hgp, hok⟩ := hd
    have hLL : Ld ++ L = (hb, .cells #[vl, vp, .int .i64 S.left, .bool S.down] 62) :: (Ls ++ (Lp ++ L)) := by rw [hLd]; simp only [List.cons_append, List.append_assoc]
    rw [hLL] at hst; refine zj <| za <| zR ?_; have hsl := sec_len hok ha0 ha1
    have hsg : S.secs[at_.toNat]? = some (S.secs.getD at_.toNat []) := by
      have hi : at_.toNat < S.secs.length := by omega
      rw [List.getD_eq_getElem?_getD, List.getElem?_eq_getElem hi]; rfl
    refine zm rfl rfl <| z1 rfl (runs_nilCheck rfl) <| zp rfl rfl U62 rfl ti59 rfl <| zl 0 rfl sc59 rfl hst rfl rfl <| zm rfl rfl <| z1 rfl (Grow.indexAddr Tryz.underlying59 ti76 hgl rfl rfl (by omega)) ?_; refine z1 rfl (Grow.loadAt (row := (S.secs.getD at_.toNat []).map b8) ag76 ti76 hgl rfl hst (fun p hp => by simp [hp]) (by rw [List.length_map]; exact hsl) (row_at (f := fun s : List UInt8 => s.map b8) (fun s hs => by rw [List.length_map]; exact hok.2.1 s hs) hsg)) ?_; refine ze rfl (runs_alloc ti76 hst) ?_; clear hst; rintro _ w ⟨b2, rfl, hst⟩; refine z0 (runs_storeW ti76 rfl rfl hst (k := 0) rfl (by rw [List.length_map]; exact hsl) rfl (NoFz.zero _) (b8_all _)) ?_; clear hst; rintro w hst; (try simp only [sZ, sS] at hst); refine zM <| zk <| zR <| zm rfl rfl <| z1 rfl (runs_nilCheck rfl) <| zp rfl rfl U62 rfl ti60 rfl <| zl 1 rfl sc60 rfl hst rfl rfl <| z1 rfl (Grow.len Tryz.underlying60 rfl (by assumption)) ?_; refine zm rfl rfl <| zM <| CW.block <| CW.loop Nat (fun k w => St w0 w I ((b2, .cells ((readTo S at_ k).map b8).toArray 76) :: (hb, .cells #[vl, vp, .int .i64 S.left, .bool S.down] 62) :: (Ls ++ (Lp ++ L))) ∧ k ≤ S.pend.length) (fun k => [(1, .int .i64 at_), (7, .pointer (some ⟨b2, 0, none⟩)), (26, vp), (27, .int .i64 (S.pend.length : Nat)), (28, .int .i64 (k : Int))]) (fun k => S.pend.length - k) ⟨0, ⟨hst, Nat.zero_le _⟩, ⟨rfl, rfl, rfl, rfl, rfl, trivial⟩⟩ ?_; clear hst; rintro k w ⟨hst, hk⟩; refine zR <| z1 rfl (runs_lss rfl rfl) <| zM <| zk <| zb rfl (fun hc29 => ?_) (fun hc29 => ?_)
    · have hcb29 := hc29; (try simp only [dY, dF] at hc29); have hpn := Grow.lt hgp; unfold maxLen at hpn
      have hk1 : k < S.pend.length := by omega
      obtain ⟨p, hp⟩ : ∃ p, S.pend[k] = p := ⟨_, rfl⟩
      have hp2 : S.pend[k]? = some p := by rw [List.getElem?_eq_getElem hk1, hp]
      obtain ⟨hpl, hpa⟩ := hok.2.2.1 p (List.mem_of_getElem? hp2); have hnx := readTo_next (a := at_) hp2; refine zj <| za <| zk <| CW.block <| zR <| z1 rfl (Grow.indexAddr Tryz.underlying60 ti78 hgp rfl rfl (by omega)) ?_; refine z1 rfl (Grow.loadAt (row := wrow p) ag78 ti78 hgp rfl hst (fun p hp => by simp [hp]) (wrow_len hpl) (row_at (f := wrow) (fun q hq => wrow_len (hok.2.2.1 q hq).1) hp2)) ?_; refine ze rfl (runs_alloc ti78 hst) ?_; clear hst; rintro _ w ⟨b4, rfl, hst⟩; refine z0 (runs_storeW ti78 rfl rfl hst (k := 0) rfl (wrow_len hpl) rfl (NoFz.zero _) (wrow_all _)) ?_; clear hst; rintro w hst; (try simp only [sZ, sS] at hst); refine zN <| zp rfl rfl U78 rfl ti3 rfl <| z1 rfl (runs_load1 sc3 rfl (hst.cell_own (k := 0) (v := .int .i64 p.1) rfl rfl)) ?_; refine zm rfl rfl <| z1 rfl (runs_eqI rfl rfl) <| zM <| zb rfl (fun hc35 => ?_) (fun hc35 => ?_)
      · have hcb35 := hc35; (try simp only [dY, dF] at hc35); rw [if_pos hc35] at hnx; refine zg <| zp rfl rfl U78 rfl ti76 rfl <| z1 rfl (runs_loadN (vs := p.2.map b8) ag76 ti76 rfl hst (k := 0) rfl (by show (p.2.map b8).take 32 = _; exact List.take_of_length_le (by rw [List.length_map]; omega)) (by rw [List.length_map]; exact hpl)) ?_; refine z0 (runs_storeW ti76 rfl rfl hst (k := 1) rfl (by rw [List.length_map]; exact hpl) (by rw [List.size_toArray, List.length_map]; exact readTo_len hok ha0 ha1 k) (NoFz.zero _) (b8_all _)) ?_; clear hst; rintro w hst; (try simp only [sZ, sS] at hst); refine zd <| zh <| za <| zg <| z1 rfl (runs_add rfl rfl (by omega)) ?_; refine zm rfl rfl <| zd ?_; exact AQ.again (x := k) (k + 1) ⟨by rw [hnx]; exact hst.drop1, by omega⟩ ⟨rfl, rfl, rfl, rfl, rfl, trivial⟩ (by omega)
      · have hcb35 := hc35; (try simp only [dY, dF] at hc35); rw [if_neg hc35] at hnx; refine zj <| zh <| za <| zg <| z1 rfl (runs_add rfl rfl (by omega)) ?_; refine zm rfl rfl <| zd ?_; exact AQ.again (x := k) (k + 1) ⟨by rw [hnx]; exact hst.drop1, by omega⟩ ⟨rfl, rfl, rfl, rfl, rfl, trivial⟩ (by omega)
    · have hcb29 := hc29; (try simp only [dY, dF] at hc29); refine CW.exit ?_; refine AQ.past_exit <| AQ.past_exit <| AQ.block_hit <| za <| zR ?_; have hke := readTo_end (S := S) (a := at_) (k := k) (by omega); rw [hke] at hst
      have hrl : (readR S at_).length = 32 := by rw [← hke]; exact readTo_len hok ha0 ha1 k
      obtain ⟨I8, hI8, hstn, hr8⟩ := RdB.of_block (n := 32) hrl.symm hst (by unfold maxLen; omega); clear hst; have hst := hstn; clear hstn; replace hle := hle.trans hI8; refine z1 rfl (runs_sliceA Tryz.underlying76 ti5 rfl) <| zK rfl call127 rfl rfl (sclone_own hst hr8 (by omega)) ?_; clear hst; rintro e w ⟨v9, Lv9, rfl, hst, hg9⟩; refine ⟨_, rfl, ?_⟩; refine zS rfl rfl <| zS rfl rfl <| zM <| CW.ret <| AQ.ret2 rfl rfl rfl ?_; exact ⟨_, v9, Lv9, hle, by rw [hm0], by rw [hLL]; exact hst, by rw [if_pos hm0]; exact hg9⟩
theorem read_spec {w0 w : World} {I : Imm} {L Ld : Own} {d : Value} {S : DS} (hd : DiskO d S Ld) (hst : St w0 w I (Ld ++ L)) (at_ : Int) :
    Calls Tryz.prog 109 #[d, .int .i64 at_] w fun e w' => ∃ I' v', Imm.le I I' ∧ e = .returned (.tuple #[v', .int .i64 (mayR S at_)]) ∧ St w0 w' I' (Ld ++ L) ∧ RdB I' v' (if mayR S at_ = 0 then readR S at_ else []) := by
  refine (read_own hd hst at_).mono fun e w' ⟨I1, v', Lv, h0, h1, h2, h3⟩ => ?_
  obtain ⟨I', hI, hst, hr⟩ := GrowB.freeze h3 h2; exact ⟨I', v', h0.trans hI, h1, hst, hr⟩
end Go.Proofs.YtadgbifmiooikaaGreatX
