/- A row's listed table of powers of ten, as the walk finds it. Own lemmas. -/
import Derived.Test.YtfjghkmapccjhaaDoorJ5
import Derived.MakeChecks
namespace Go.Proofs.YtfjghkmapccjhaaDoorX
set_option linter.unusedVariables false
open Go Go.RowKit
theorem tab_of_mem {P : Program} {w : World} {name : String} {k : IntKind} {zs : List Int} {g : Nat} {t e : TypeId} {n : Nat}
    (hg : P.globalNamed name = some g) (hty : (P.globals[g]?).map (·.type) = some t) (ht : P.underlying t = some (.array n e)) (he : P.underlying e = some (.int k)) (hce : P.cellsOf e = 1) (hct : P.cellsOf t = n) :
    ∀ {laid : List (String × DataW Unit)} {ps : List MemPlace}, DataW.LaidVars P w laid ps → (name, Lib.tabData k zs) ∈ laid → Lib.TabIs P w name k zs
  | [], _, _, hm => by cases hm
  | (n', d') :: r, ps, h, hm => by
    obtain ⟨g', t', cs, fuel, p, q, hg', ht', hvar, hd, hr, _⟩ := h
    rcases List.mem_cons.1 hm with e1 | hm
    · obtain ⟨rfl, rfl⟩ := Prod.mk.inj e1
      obtain rfl := Option.some.inj (hg.symm.trans hg')
      obtain rfl := Option.some.inj (hty.symm.trans ht')
      unfold Lib.TabIs
      rw [hvar, ← Lib.cells_of_tab ht he hce hct hd]
    · exact tab_of_mem hg hty ht he hce hct hr hm
theorem TabK.of_laid {w : World} {laid : List (String × DataW Unit)} (hh : (laid.all fun x => x.2.handleName?.isNone) = true) (hm : ("internal/strconv.uint64pow10", Lib.tabData .u64 Lib.pow10Tab) ∈ laid)
    (h : laidMetH Tryd.prog laid w) : TabK (fun b => w.heap[b]?) := by
  rw [MakeChecks.laidMetH_plain _ _ _ hh] at h
  obtain ⟨ps, h1, _⟩ := h
  obtain ⟨g, hg⟩ : ∃ g, Tryd.prog.globalNamed "internal/strconv.uint64pow10" = some g := Option.isSome_iff_exists.1 (by kernel_rfl)
  have hty : (Tryd.prog.globalNamed "internal/strconv.uint64pow10").bind (fun g => (Tryd.prog.globals[g]?).map (·.type)) = some 103 := by kernel_rfl
  rw [hg] at hty
  have ht := tab_of_mem hg hty Tryd.underlying103 Tryd.underlying91 (by kernel_rfl) (by kernel_rfl) h1 hm
  unfold Lib.TabIs World.var? at ht
  rw [hg] at ht
  simp only [Option.bind_some] at ht
  split at ht
  · rename_i cs T fz hc
    obtain rfl := Option.some.inj ht
    exact ⟨g, T, fz, hg, hc⟩
  · cases ht
end Go.Proofs.YtfjghkmapccjhaaDoorX
