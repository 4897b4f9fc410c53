/- Items, their headers, tables: how these lie in memory, in plain words. No program in sight. -/
import Derived.Test.YtlmmpcdjkpibcaaXZ
import Derived.Test.YtlmmpcdjkpibcaaXM
import Derived.Test.YtlmmpcdjkpibcaaXN
import Derived.Test.YtlmmpcdjkpibcaaQ0
namespace Go.Proofs.YtlmmpcdjkpibcaaX
set_option linter.unusedVariables false
set_option linter.unusedSimpArgs false
open Go Go.RowKit
variable {w0 w : World} {I : Imm} {L : Own} {P : Program}
/-- Headers that can be read: frozen ones, or one's own. -/
def SrcH (I : Imm) (L : Own) (v : Value) (hs : List HRow) : Prop := ∃ B c, v = .slice B hs.length c ∧ ∀ (w0 w : World) (I' : Imm) (L' : Own), I.le I' → (∀ p ∈ L, p ∈ L') → St w0 w I' L' → ∀ j u, (hs.flatMap hrow)[j]? = some u → ∃ a, B = some a ∧ w.cell? (a.add j) = some u
theorem RdH.srcH {v : Value} {hs : List HRow} (h : RdH I v hs) (L : Own) : SrcH I L v hs := by
  obtain ⟨_, _, A, c, rfl, _, h4⟩ := h
  refine ⟨A, c, rfl, fun w0 w I' L' hI _ hst j u hj => ?_⟩
  obtain ⟨a, h5, h6⟩ := h4 j u hj
  exact ⟨a, h5, hst.cell_imm (hI.cell h6)⟩
theorem Grow.srcH {v : Value} {hs : List HRow} {Lv : Own} (hg : Grow 54 2 v hs.length (hs.flatMap hrow) Lv) (hsub : ∀ p ∈ Lv, p ∈ L) : SrcH I L v hs := by
  have hc := fun (w0 w : World) (I' : Imm) (L' : Own) (hL : ∀ p ∈ L, p ∈ L') (hst : St w0 w I' L') (j : Nat) (u : Value) (hj : (hs.flatMap hrow)[j]? = some u) => Grow.cell hg hst (fun p hp => hL p (hsub p hp)) hj
  obtain ⟨h1, _, ⟨rfl, h0, rfl⟩ | ⟨g, cap, cur, rfl, rfl, _⟩⟩ := hg
  · refine ⟨none, 0, by rw [h0], fun w0 w I' L' _ _ _ j u hj => ?_⟩
    rw [List.eq_nil_of_length_eq_zero h0] at hj
    simp at hj
  · exact ⟨_, _, rfl, fun w0 w I' L' _ hL hst j u hj => ⟨_, rfl, hc w0 w I' L' hL hst j u hj⟩⟩
theorem SrcH.mono {v : Value} {hs : List HRow} (h : SrcH I L v hs) {I' : Imm} {L' : Own} (hI : I.le I') (hL : ∀ p ∈ L, p ∈ L') : SrcH I' L' v hs := by
  obtain ⟨B, c, e, h⟩ := h
  exact ⟨B, c, e, fun w0 w I2 L2 h1 h2 hst j u hj => h w0 w I2 L2 (hI.trans h1) (fun p hp => h2 p (hL p hp)) hst j u hj⟩
theorem hrow_one (hs : List HRow) : ∀ u ∈ hs.flatMap hrow, u.oneCell' = true := by
  intro u hu
  obtain ⟨r, _, h⟩ := List.mem_flatMap.1 hu
  simp only [hrow, List.mem_cons, List.not_mem_nil, or_false] at h
  rcases h with rfl | rfl <;> rfl
theorem flat_len2 (hs : List HRow) : (hs.flatMap hrow).length = hs.length * 2 := by
  induction hs with
  | nil => rfl
  | cons r t ih => rw [List.flatMap_cons, List.length_append, ih, hrow_len, List.length_cons]; omega
/-- An item. -/
structure It where
  id : Int
  kind : Int
  group : Int
  name : ByteArray
  method : ByteArray
  url : ByteArray
  heads : List HRow
  body : ByteArray
  mode : Int
  creds : Int
  page : ByteArray
  csp : ByteArray
  refer : Int
  nurl : ByteArray
  nmethod : ByteArray
  nbody : ByteArray
  hops : Int
  tries : Int
  til : Int
  tainted : Bool
  got : ByteArray
  tag : ByteArray
  state : Int
  code : Int
  acked : Bool
abbrev itv (it : It) (vh : Value) : Value := .agg #[.int .i64 it.id, .int .i64 it.kind, .int .i64 it.group, .string it.name, .string it.method, .string it.url, vh, .string it.body, .int .i64 it.mode, .int .i64 it.creds, .string it.page, .string it.csp, .int .i64 it.refer, .string it.nurl, .string it.nmethod, .string it.nbody, .int .i64 it.hops, .int .i64 it.tries, .int .i64 it.til, .bool it.tainted, .string it.got, .string it.tag, .int .i64 it.state, .int .i64 it.code, .bool it.acked]
def zeroIt : It := ⟨0, 0, 0, .empty, .empty, .empty, [], .empty, 0, 0, .empty, .empty, 0, .empty, .empty, .empty, 0, 0, 0, false, .empty, .empty, 0, 0, false⟩
theorem it_one (it : It) {vh : Value} (h : vh.oneCell' = true) : [Value.int .i64 it.id, Value.int .i64 it.kind, Value.int .i64 it.group, Value.string it.name, Value.string it.method, Value.string it.url, vh, Value.string it.body, Value.int .i64 it.mode, Value.int .i64 it.creds, Value.string it.page, Value.string it.csp, Value.int .i64 it.refer, Value.string it.nurl, Value.string it.nmethod, Value.string it.nbody, Value.int .i64 it.hops, Value.int .i64 it.tries, Value.int .i64 it.til, Value.bool it.tainted, Value.string it.got, Value.string it.tag, Value.int .i64 it.state, Value.int .i64 it.code, Value.bool it.acked].all Value.oneCell' = true := by
  simp only [List.all_cons, h, List.all_nil]
  rfl
abbrev TRow := Int × (It × Value)
def trend (rows : List TRow) : List (Int × Value) := rend (fun p => itv p.1 p.2) rows
/-- A table. -/
def TbO (I : Imm) (rows : List TRow) (next : Int) (bT : Nat) (Lt : Own) : Prop := ∃ bM oM, Lt = [(bT, .cells #[.map (some bM), .int .i64 next] 67), (bM, oM)] ∧ MapR kI oM (trend rows) ∧ (rows.map Prod.fst).Nodup ∧
  (∀ r ∈ rows, i64ok r.1 ∧ RdH I r.2.2 r.2.1.heads ∧ r.2.1.heads.length ≤ 100000000) ∧ i64ok next
theorem RdH.mono {I' : Imm} {v : Value} {hs : List HRow} (h : RdH I v hs) (hI : I.le I') : RdH I' v hs := RdL.mono hI h
theorem TbO.mono {I' : Imm} {rows : List TRow} {next : Int} {bT : Nat} {Lt : Own} (h : TbO I rows next bT Lt) (hI : I.le I') : TbO I' rows next bT Lt := by
  obtain ⟨bM, oM, e, h1, h2, h3, h4⟩ := h
  exact ⟨bM, oM, e, h1, h2, fun r hr => ⟨(h3 r hr).1, (h3 r hr).2.1.mono hI, (h3 r hr).2.2⟩, h4⟩
theorem pput_mem {α : Type} {rows : List (Int × α)} {k : Int} {v : α} {r : Int × α} (h : r ∈ pput rows k v) : r = (k, v) ∨ r ∈ rows := by
  induction rows with
  | nil => exact .inl (by simpa [pput] using h)
  | cons p t ih =>
    obtain ⟨a, u⟩ := p
    unfold pput at h
    by_cases hk : k = a
    · rw [if_pos hk] at h
      rcases List.mem_cons.1 h with e | h
      · exact .inl (by rw [e, hk])
      · exact .inr (List.mem_cons_of_mem _ h)
    · rw [if_neg hk] at h
      rcases List.mem_cons.1 h with e | h
      · exact .inr (by rw [e]; exact List.mem_cons_self ..)
      · exact (ih h).imp id (List.mem_cons_of_mem _)
theorem pdel_mem {α : Type} {rows : List (Int × α)} {k : Int} {r : Int × α} (h : r ∈ pdel rows k) : r ∈ rows := by
  induction rows with
  | nil => cases h
  | cons p t ih =>
    obtain ⟨a, u⟩ := p
    unfold pdel at h
    by_cases hk : k = a
    · rw [if_pos hk] at h; exact List.mem_cons_of_mem _ h
    · rw [if_neg hk] at h
      rcases List.mem_cons.1 h with e | h
      · rw [e]; exact List.mem_cons_self ..
      · exact List.mem_cons_of_mem _ (ih h)
theorem wf_of {k : Int} (h : i64ok k) : (Lit.int .i64 k).wf = true := by
  unfold i64ok at h
  simp only [Lit.wf, Bool.and_eq_true, decide_eq_true_eq]
  exact h
/-- Keys, rising. -/
def keysUp {α : Type} (rows : List (Int × α)) : List Int := (rows.map Prod.fst).mergeSort fun x y => decide (x ≤ y)
end Go.Proofs.YtlmmpcdjkpibcaaX
