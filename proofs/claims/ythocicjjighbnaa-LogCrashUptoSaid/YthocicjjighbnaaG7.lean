/- Plain: appending, turning, formatting keep what stands on a log's disk, also cut off. No program in sight. -/
import Derived.Test.YthocicjjighbnaaG6
namespace Go.Proofs.YthocicjjighbnaaX
set_option linter.unusedVariables false
set_option linter.unusedSimpArgs false
open Go Go.RowKit

theorem may_cases {G : LG} {room : Int} {bss : List (List UInt8)} (hb : G.bad = 0) (hn : ∀ b ∈ bss, needN b.length ≤ 255) (hx : G.nx + (bss.length : Nat) ≤ 16777216) : (mayL G room bss = 5 ∧ room < (needS bss : Nat)) ∨ (mayL G room bss = 0 ∧ (needS bss : Nat) ≤ room) := by
  unfold mayL
  rw [if_neg (by rw [hb]; decide)]
  by_cases h : room < (needS bss : Nat)
  · rw [if_pos (.inl h)]
    exact .inl ⟨rfl, h⟩
  · rw [if_neg (by omega), if_neg]
    · exact .inr ⟨rfl, by omega⟩
    · rw [List.any_eq_true]
      rintro ⟨b, h1, h2⟩
      have := hn b h1
      simp only [decide_eq_true_eq] at h2
      omega
theorem needS_one (b : List UInt8) : needS [b] = needN b.length := by simp [needS]
theorem LI.dn {S : DS} {G : LG} {bs : List (List UInt8)} (h : LI S G bs) : S.down = false ∧ S.pend = [] ∧ G.bad = 0 ∧ S.secs.length = 514 ∧ SlotOk G.s := ⟨h.on, h.pn, h.ok, h.di.len, h.di.so⟩
/-- A disk on which all but the sectors from a place on is as it was. -/
theorem torn_pend {at_ : Int} {f : Nat → List UInt8} {k : Nat} {old : Int → List UInt8} (hf : ∀ j, j < k → (f j).length = 32) (x : Int × List UInt8) (hx : x ∈ putP at_ f k) (c : List UInt8) (m : Nat) (hm : m = 0 ∨ m = 16 ∨ m = 32)
    (hc : c = old x.1 ∨ ∃ j : Nat, j < k ∧ x.1 = at_ + (j : Int) ∧ (c = f j ∨ c = mixB (f j) (old x.1))) (hl : (old x.1).length = 32) : x.2.take m ++ c.drop m = old x.1 ∨ ∃ j : Nat, j < k ∧ x.1 = at_ + (j : Int) ∧ (x.2.take m ++ c.drop m = f j ∨ x.2.take m ++ c.drop m = mixB (f j) (old x.1)) := by
  obtain ⟨j, hj, rfl⟩ := putP_mem hx
  dsimp only at hc hl ⊢
  have hcl : c.length = 32 := by
    rcases hc with rfl | ⟨i, hi, he, rfl | rfl⟩
    · exact hl
    · exact hf i hi
    · unfold mixB
      rw [List.length_append, List.length_take, List.length_drop, hf i hi, hl]
      rfl
  rcases hm with rfl | rfl | rfl
  · simpa using hc
  · refine .inr ⟨j, hj, rfl, ?_⟩
    rcases hc with rfl | ⟨i, hi, he, rfl | rfl⟩
    · exact .inr rfl
    · obtain rfl : i = j := by omega
      exact .inl (List.take_append_drop 16 _)
    · obtain rfl : i = j := by omega
      refine .inr ?_
      unfold mixB
      rw [List.drop_append, List.drop_eq_nil_of_le (by rw [List.length_take]; omega), List.length_take, hf i hi]
      simp
  · refine .inr ⟨j, hj, rfl, .inl ?_⟩
    rw [List.take_of_length_le (by rw [hf j hj]; exact Nat.le_refl _), List.drop_eq_nil_of_le (by omega), List.append_nil]
/-- A record appended, or not, or cut off. -/
theorem append_li {S S' : DS} {G G' : LG} {bs : List (List UInt8)} {b : List UInt8} {er : Int} (h : LI S G bs) (hb : needN b.length ≤ 255) (hx : G.nx < 16777215) (hok : DOk S') (ha : ApR S G b S' G' er) :
    (er = 5 ∧ S' = S ∧ G' = G ∧ roomR G < (needN b.length : Nat)) ∨
    (er = 0 ∧ (needN b.length : Nat) ≤ roomR G ∧ LI S' G' (bs ++ [b]) ∧ G' = G.to (G.at_ + (needN b.length : Nat)) (G.nx + 1) ∧ (S.left = -1 → S'.left = -1)) ∨
    (er = 8 ∧ S.left ≠ -1 ∧ S'.down = true ∧ G' = G.ill 8 ∧ ∀ ks, DI (crashR S' ks).secs G.s bs G.at_ G.nx) := by
  obtain ⟨hd, hp, hbad, hl, hso⟩ := h.dn
  have hrg := h.di.rng
  have hso' := hso
  unfold SlotOk at hso'
  have hroom : roomR G = beginR G.s.h + 256 - G.at_ := rfl
  have hmc := may_cases (G := G) (room := roomR G) (bss := [b]) hbad (fun c hc => by rw [List.mem_singleton] at hc; subst hc; exact hb) (by simp; omega)
  rw [needS_one] at hmc
  have hm : mayM G.s.e G.nx = true := by unfold mayM; simp only [Bool.and_eq_true, decide_eq_true_eq]; omega
  have hneed := need_room b.length
  cases ha with
  | may h' =>
    rcases hmc with ⟨h1, h2⟩ | ⟨h1, _⟩
    · exact .inl ⟨h1, rfl, rfl, h2⟩
    · exact absurd h1 h'
  | bad h' hw hne =>
    rename_i wa
    rcases hmc with ⟨h1, _⟩ | ⟨_, h2⟩
    · rw [h'] at h1; cases h1
    cases hw with
    | bad hfw _ =>
      have hfw := hfw.out
      rw [if_neg (by rw [hm]; simp; omega), if_neg (by omega)] at hfw
      rcases put_endsL hd (by omega) (by omega) (fun k hk => secB_len hm hb hk) hfw with ⟨_, _, _, _, h⟩ | ⟨k, l, hk, rfl, hl0, rfl⟩
      · exact absurd h hne
      refine .inr (.inr ⟨rfl, hl0, rfl, rfl, fun ks => ?_⟩)
      rw [hp, List.nil_append] at hok ⊢
      obtain ⟨c1, c2⟩ := crash_ok hok ks
      have hf : ∀ j, j < k → (secB G.s.e G.nx b j).length = 32 := fun j hj => secB_len hm hb (by omega)
      have hP := fun (q : Int) (h0 : 0 ≤ q) (h1 : q < 514) => crash_P (S := { S with pend := putP G.at_ (secB G.s.e G.nx b) k, left := l, down := true }) (fun q c => c = secAt S.secs q ∨ ∃ j : Nat, j < k ∧ q = G.at_ + (j : Int) ∧ (c = secB G.s.e G.nx b j ∨ c = mixB (secB G.s.e G.nx b j) (secAt S.secs q))) ks
        (fun x hx => by obtain ⟨j, _, rfl⟩ := putP_mem hx; dsimp only; omega) (fun q _ _ => .inl rfl)
        (fun x hx c m hm' hlt hc => torn_pend (old := secAt S.secs) hf x hx c m hm' hc (secAt_len h.di.all (by obtain ⟨j, _, rfl⟩ := putP_mem hx; dsimp only; omega) hlt)) h0 (by show q < (S.secs.length : Int); omega)
      generalize hY : (crashR { S with pend := putP G.at_ (secB G.s.e G.nx b) k, left := l, down := true } ks).secs = Y at c1 c2 hP ⊢
      replace c1 : Y.length = 514 := by rw [c1]; exact hl
      have hold : ∀ q : Int, 0 ≤ q → q < 514 → q < G.at_ → secAt Y q = secAt S.secs q := fun q h0 h1 h2 => by
        rcases hP q h0 h1 with h | ⟨j, _, h, _⟩
        · exact h
        · omega
      refine ⟨c1, c2, hso, h.di.n1, h.di.be, by rw [hold _ (by omega) (by omega) (by omega)]; exact h.di.sl, by rw [hold _ (by omega) (by omega) (by omega)]; exact h.di.ot, fun p hp2 hp3 => ?_, ?_⟩
      · have h0 := h.di.mx p hp2 hp3
        rcases hP p (by omega) hp3 with h | ⟨j, hj, rfl, h | h⟩
        · rw [h]; exact h0
        · have hs := seal_part hm hb (k := j) (by omega)
          have h3 : epochOf (secB G.s.e G.nx b j) = G.s.e := (seal_hd hs).1
          have h4 : tlE (secB G.s.e G.nx b j) = G.s.e := (seal_tl hs).1
          rw [h, h3, h4]
          exact ⟨Int.le_refl _, Int.le_refl _⟩
        · have hs := seal_part hm hb (k := j) (by omega)
          have h3 : epochOf (secB G.s.e G.nx b j) = G.s.e := (seal_hd hs).1
          rw [h, (mix_hd (hf j hj)).1, (mix_tl (hf j hj)).1, h3]
          exact ⟨Int.le_refl _, h0.2⟩
      · have hlen : (flat Y).secs.length = (flat S.secs).secs.length := by show Y.length = S.secs.length; omega
        obtain ⟨least', e1, e2, e3, e4⟩ := recs_ext (S' := flat Y) hlen rfl (Int.le_refl _) h.di.rc (fun x hx hx2 => by
          rw [readR_nil rfl, readR_nil rfl]
          exact hold x (by omega) (by omega) hx2)
        have e5 := e4 [] _ _ (recs_stop fun me b' next hfr hm1 hm2 => by
          obtain ⟨n', n1, n2, n3, n4, n5, n6, n7, n8, n9, n10⟩ := frr_inv hfr
          have hop : ∀ i : Nat, i < n' → G.at_ + (i : Int) < 514 ∧ epochOf (secAt Y (G.at_ + (i : Int))) = me ∧ seqOf (secAt Y (G.at_ + (i : Int))) = G.nx ∧ tlE (secAt Y (G.at_ + (i : Int))) = me ∧ tlQ (secAt Y (G.at_ + (i : Int))) = G.nx := fun i hi => by
            obtain ⟨h1, h2⟩ := n4 i hi
            have h3 := open_marks (x := readR (flat Y) (G.at_ + (i : Int))) h2.1
            have h4 := h2.2.1
            rw [← n5, ← n6] at h4
            simp only [List.cons.injEq, and_true] at h4
            rw [show openR (readR (flat Y) (G.at_ + (i : Int))) = oAt (flat Y) G.at_ i from rfl, h4.1, h4.2, readR_nil rfl] at h3
            exact ⟨by omega, h3⟩
          by_cases hme : me = G.s.e
          · have hnew : ∀ i : Nat, i < n' → i < k ∧ secAt Y (G.at_ + (i : Int)) = secB G.s.e G.nx b i := fun i hi => by
              obtain ⟨h1, h2, h3, h4, h5⟩ := hop i hi
              have hst := h.st (G.at_ + (i : Int)) (by omega) h1
              rcases hP (G.at_ + (i : Int)) (by omega) h1 with h | ⟨j, hj, he, h | h⟩
              · rw [h] at h4 h5
                have := hst.2 (by omega)
                omega
              · obtain rfl : i = j := by omega
                exact ⟨hj, h⟩
              · rw [h, (mix_tl (hf j hj)).1] at h4
                rw [h, (mix_tl (hf j hj)).2] at h5
                have := hst.2 (by omega)
                omega
            have h0 := (hnew 0 (by omega)).2
            have h1 : (oAt (flat Y) G.at_ 0).n = (needN b.length : Nat) := by
              unfold oAt
              rw [readR_nil rfl]
              show (openR (secAt Y (G.at_ + ((0 : Nat) : Int)))).n = _
              rw [h0, secB_open hm hb (by omega)]
            have h2 := (hnew (needN b.length - 1) (by omega)).1
            omega
          · have hsame : ∀ i : Nat, i < n' → secAt Y (G.at_ + (i : Int)) = secAt S.secs (G.at_ + (i : Int)) := fun i hi => by
              obtain ⟨h1, h2, h3, h4, h5⟩ := hop i hi
              rcases hP (G.at_ + (i : Int)) (by omega) h1 with h | ⟨j, hj, he, h | h⟩
              · exact h
              · have hs := seal_part hm hb (k := j) (by omega)
                have h6 : epochOf (secB G.s.e G.nx b j) = G.s.e := (seal_hd hs).1
                rw [h, h6] at h2
                exact absurd h2.symm hme
              · have hs := seal_part hm hb (k := j) (by omega)
                have h6 : epochOf (secB G.s.e G.nx b j) = G.s.e := (seal_hd hs).1
                rw [h, (mix_hd (hf j hj)).1, h6] at h2
                exact absurd h2.symm hme
            refine e3 me b' next (frr_loc (S := flat Y) (S' := flat S.secs) hlen.symm rfl hfr fun p hp1 hp2 => ?_) hm1 hm2
            have := hsame (p - G.at_).toNat (by omega)
            rw [show G.at_ + (((p - G.at_).toNat : Nat) : Int) = p by omega] at this
            rw [readR_nil rfl, readR_nil rfl]
            exact this.symm)
        rw [List.append_nil] at e5
        exact e5
    | step hfw hw2 =>
      cases hw2
      have hfw := hfw.out
      rw [if_neg (by rw [hm]; simp; omega), if_neg (by omega)] at hfw
      rcases put_endsL hd (by omega) (by omega) (fun k hk => secB_len hm hb hk) hfw with ⟨l, rfl, _⟩ | ⟨k, l, hk, rfl, hl0, h⟩
      · exact absurd (by rw [flush_ok (by exact hd)]) hne
      · cases h
  | ok h' hw =>
    rcases hmc with ⟨h1, _⟩ | ⟨_, h2⟩
    · rw [h'] at h1; cases h1
    have hns := needS_one b
    rcases wr_ends hw hd (by rw [hp]; simp) (fun c hc => by rw [List.mem_singleton] at hc; subst hc; exact hb) (by omega) (by omega) (by omega) (by omega) (by omega) (by simp; omega) with ⟨_, rfl, w2, w3, w4, w5, w6, w7⟩ | ⟨h, _⟩
    · rw [hns] at w6 ⊢
      have hread : ∀ p : Int, 0 ≤ p → p < 514 → p < G.at_ ∨ G.at_ + (needN b.length : Nat) ≤ p → secAt S'.secs p = secAt S.secs p := fun p h0 h1 h3 => by
        have := w6 p h0 (by omega) h3
        rwa [readR_nil w2, readR_nil hp] at this
      have hmk : ∀ p : Int, G.at_ ≤ p → p < G.at_ + (needN b.length : Nat) → epochOf (secAt S'.secs p) = G.s.e ∧ seqOf (secAt S'.secs p) = G.nx ∧ tlE (secAt S'.secs p) = G.s.e ∧ tlQ (secAt S'.secs p) = G.nx := fun p h0 h1 => by
        obtain ⟨q', m1, m2, m3⟩ := w7.marks p h0 (by rw [hns]; exact h1)
        obtain rfl : q' = G.nx := by simp at m2; omega
        rwa [readR_nil w2] at m3
      have hstr : ∀ p : Int, 2 ≤ p → p < 514 → (epochOf (secAt S'.secs p) = G.s.e → seqOf (secAt S'.secs p) < G.nx + 1) ∧ (tlE (secAt S'.secs p) = G.s.e → tlQ (secAt S'.secs p) < G.nx + 1) := fun p hp2 hp3 => by
        by_cases hc : G.at_ ≤ p ∧ p < G.at_ + (needN b.length : Nat)
        · have := hmk p hc.1 hc.2
          exact ⟨fun _ => by omega, fun _ => by omega⟩
        · rw [hread p (by omega) hp3 (by omega)]
          have := h.st p hp2 hp3
          exact ⟨fun he => by have := this.1 he; omega, fun he => by have := this.2 he; omega⟩
      refine .inr (.inl ⟨rfl, h2, ⟨w3, w2, hbad, ⟨by omega, hok.2.1, hso, h.di.n1, h.di.be, ?_, ?_, fun p hp2 hp3 => ?_, ?_⟩, hstr⟩, rfl, w4⟩)
      · show secAt S'.secs (G.s.n % 2) = slotX G.s
        rw [hread _ (by omega) (by omega) (by omega)]
        exact h.di.sl
      · show tlQ (secAt S'.secs ((G.s.n + 1) % 2)) < G.s.n
        rw [hread _ (by omega) (by omega) (by omega)]
        exact h.di.ot
      · show epochOf (secAt S'.secs p) ≤ G.s.e ∧ tlE (secAt S'.secs p) ≤ G.s.e
        by_cases hc : G.at_ ≤ p ∧ p < G.at_ + (needN b.length : Nat)
        · have := hmk p hc.1 hc.2
          omega
        · rw [hread p (by omega) hp3 (by omega)]
          exact h.di.mx p hp2 hp3
      · have hlen : (flat S'.secs).secs.length = (flat S.secs).secs.length := w5
        obtain ⟨least', e1, e2, e3, e4⟩ := recs_ext (S' := flat S'.secs) hlen rfl (Int.le_refl _) h.di.rc (fun x hx hx2 => by
          rw [readR_nil rfl, readR_nil rfl]
          exact hread x (by omega) (by omega) (.inl hx2))
        have hbe := h.di.be
        have hh : Holds (flat S'.secs) G.at_ G.s.e G.nx b := ⟨w7.1.1, w7.1.2.1, fun k hk => by rw [← read_flat w2]; exact w7.1.2.2 k hk⟩
        refine e4 [b] _ _ (.step (frr_holds hh rfl (by omega) (by omega) (by show beginR G.s.h + 256 ≤ ((S'.secs.length : Nat) : Int); omega)) (by omega) (Int.le_refl _) (recs_stop fun me b' next hfr hm1 hm2 => ?_))
        obtain ⟨f1, f2, f3⟩ := frr_mark hfr
        rw [readR_nil rfl] at f2 f3
        have := h.st (G.at_ + (needN b.length : Nat)) (by omega) (by omega)
        rw [← hread _ (by omega) (by omega) (.inr (Int.le_refl _))] at this
        have f4 : seqOf (secAt S'.secs (G.at_ + (needN b.length : Nat))) < G.nx := this.1 (by have e : epochOf (secAt S'.secs (G.at_ + (needN b.length : Nat))) = me := f2; omega)
        have f5 : seqOf (secAt S'.secs (G.at_ + (needN b.length : Nat))) = G.nx + 1 := f3
        omega
    · cases h

theorem rows_recs {S : DS} (hd : S.down = false) {en e : Int} (hen : en ≤ S.secs.length) : ∀ {bss : List (List UInt8)} {at_ q : Int}, 0 ≤ at_ → RowsAt S e at_ q bss → at_ + (needS bss : Nat) ≤ en → NoRec S en e e (at_ + (needS bss : Nat)) (q + (bss.length : Nat)) → Recs S en e e at_ q bss (at_ + (needS bss : Nat)) (q + (bss.length : Nat))
  | [], at_, q, h0, _, h1, h2 => by
    have e1 : at_ + ((needS [] : Nat) : Int) = at_ := by simp [needS]
    have e2 : q + ((([] : List (List UInt8)).length : Nat) : Int) = q := by simp
    rw [e1, e2] at h2 ⊢
    exact recs_stop h2
  | b :: r, at_, q, h0, h, h1, h2 => by
    rw [needS_cons] at h1
    have e1 : at_ + ((needS (b :: r) : Nat) : Int) = at_ + (needN b.length : Nat) + (needS r : Nat) := by rw [needS_cons]; omega
    have e2 : q + (((b :: r).length : Nat) : Int) = q + 1 + (r.length : Nat) := by rw [List.length_cons]; omega
    rw [e1, e2] at h2 ⊢
    exact .step (frr_holds h.1 hd h0 (by omega) hen) (Int.le_refl _) (Int.le_refl _) (rows_recs hd hen (by omega) h.2 (by omega) h2)
theorem rows_same {S S' : DS} {e : Int} : ∀ {bss : List (List UInt8)} {at_ q : Int}, (∀ p, at_ ≤ p → readR S' p = readR S p) → RowsAt S e at_ q bss → RowsAt S' e at_ q bss
  | [], at_, q, _, _ => trivial
  | b :: r, at_, q, hr, h => ⟨⟨h.1.1, h.1.2.1, fun k hk => by rw [hr _ (by omega)]; exact h.1.2.2 k hk⟩, rows_same (fun p hp => hr p (by omega)) h.2⟩
theorem beg (h : Int) : beginR h = 2 + h * 256 := rfl
/-- A log turned, or not, or cut off. -/
theorem turn_li {S S' : DS} {G G' : LG} {bs bss : List (List UInt8)} {er : Int} (h : LI S G bs) (hb : ∀ b ∈ bss, needN b.length ≤ 255) (hx : G.nx + (bss.length : Nat) ≤ 16777215) (hn : G.s.n < 16777214) (hok : DOk S') (ht : TuR S G bss S' G' er) :
    (er = 5 ∧ S' = S ∧ G' = G ∧ 256 < needS bss) ∨
    (er = 0 ∧ needS bss ≤ 256 ∧ LI S' G' bss ∧ G' = ⟨turnS G, beginR (1 - G.s.h) + (needS bss : Nat), G.nx + (bss.length : Nat), 0⟩ ∧ (S.left = -1 → S'.left = -1)) ∨
    (er = 8 ∧ S.left ≠ -1 ∧ S'.down = true ∧ G' = G.ill 8 ∧ ∀ ks, DI (crashR S' ks).secs G.s bs G.at_ G.nx) := by
  obtain ⟨hd, hp, hbad, hl, hso⟩ := h.dn
  have hrg := h.di.rng
  have hso' := hso
  unfold SlotOk at hso'
  have hb1 := beg (1 - G.s.h)
  have hmc := may_cases (G := G) (room := 256) hbad hb (by omega)
  have hwr : ∀ S1 a er, WrR G.s.e S (beginR (1 - G.s.h)) G.nx bss S1 a er → needS bss ≤ 256 → _ := fun S1 a er hw h2 => wr_ends hw hd (by rw [hp]; simp) hb (by omega) (by omega) (by omega) (by omega) (by omega) (by omega)
  -- what stands behind the rows being written
  have hin : ∀ S1 : DS, S1.pend = [] → S1.secs.length = 514 → (∀ x ∈ S1.secs, x.length = 32) → needS bss ≤ 256 → (∀ p : Int, 0 ≤ p → p < (S.secs.length : Int) → p < beginR (1 - G.s.h) ∨ beginR (1 - G.s.h) + (needS bss : Nat) ≤ p → readR S1 p = readR S p) → RowsAt S1 G.s.e (beginR (1 - G.s.h)) G.nx bss →
      (∀ p : Int, 2 ≤ p → p < 514 → epochOf (secAt S1.secs p) ≤ G.s.e ∧ tlE (secAt S1.secs p) ≤ G.s.e) ∧ (∀ p : Int, 2 ≤ p → p < 514 → (epochOf (secAt S1.secs p) = G.s.e → seqOf (secAt S1.secs p) < G.nx + (bss.length : Nat)) ∧ (tlE (secAt S1.secs p) = G.s.e → tlQ (secAt S1.secs p) < G.nx + (bss.length : Nat))) ∧
      (∀ p : Int, 0 ≤ p → p < 514 → p < beginR (1 - G.s.h) ∨ beginR (1 - G.s.h) + (needS bss : Nat) ≤ p → secAt S1.secs p = secAt S.secs p) := fun S1 w2 w5 wa h2 w6 w7 => by
    have hread : ∀ p : Int, 0 ≤ p → p < 514 → p < beginR (1 - G.s.h) ∨ beginR (1 - G.s.h) + (needS bss : Nat) ≤ p → secAt S1.secs p = secAt S.secs p := fun p h0 h1 h3 => by
      have := w6 p h0 (by omega) h3
      rwa [readR_nil w2, readR_nil hp] at this
    have hmk : ∀ p : Int, beginR (1 - G.s.h) ≤ p → p < beginR (1 - G.s.h) + (needS bss : Nat) → ∃ q', G.nx ≤ q' ∧ q' < G.nx + (bss.length : Nat) ∧ epochOf (secAt S1.secs p) = G.s.e ∧ seqOf (secAt S1.secs p) = q' ∧ tlE (secAt S1.secs p) = G.s.e ∧ tlQ (secAt S1.secs p) = q' := fun p h0 h1 => by
      have := w7.marks p h0 h1
      rwa [readR_nil w2] at this
    refine ⟨fun p hp2 hp3 => ?_, fun p hp2 hp3 => ?_, hread⟩
    · by_cases hc : beginR (1 - G.s.h) ≤ p ∧ p < beginR (1 - G.s.h) + (needS bss : Nat)
      · obtain ⟨q', m1, m2, m3, m4, m5, m6⟩ := hmk p hc.1 hc.2
        omega
      · rw [hread p (by omega) hp3 (by omega)]
        exact h.di.mx p hp2 hp3
    · by_cases hc : beginR (1 - G.s.h) ≤ p ∧ p < beginR (1 - G.s.h) + (needS bss : Nat)
      · obtain ⟨q', m1, m2, m3, m4, m5, m6⟩ := hmk p hc.1 hc.2
        exact ⟨fun _ => by omega, fun _ => by omega⟩
      · rw [hread p (by omega) hp3 (by omega)]
        have := h.st p hp2 hp3
        exact ⟨fun he => by have := this.1 he; omega, fun he => by have := this.2 he; omega⟩
  -- the half in use, and the slots, are as they were
  have hkeep : ∀ Y : List (List UInt8), Y.length = 514 → (∀ x ∈ Y, x.length = 32) → (∀ p : Int, 2 ≤ p → p < 514 → epochOf (secAt Y p) ≤ G.s.e ∧ tlE (secAt Y p) ≤ G.s.e) → (∀ p : Int, 0 ≤ p → p < 514 → p < beginR (1 - G.s.h) ∨ beginR (1 - G.s.h) + 256 ≤ p → secAt Y p = secAt S.secs p) → DI Y G.s bs G.at_ G.nx := fun Y y1 y2 y3 y4 =>
    ⟨y1, y2, hso, h.di.n1, h.di.be, by rw [y4 _ (by omega) (by omega) (by omega)]; exact h.di.sl, by rw [y4 _ (by omega) (by omega) (by omega)]; exact h.di.ot, y3,
      recs_in (S := flat S.secs) (S' := flat Y) (by show Y.length = S.secs.length; omega) rfl h.di.rc fun x hx hx2 => by
        rw [readR_nil rfl, readR_nil rfl]
        exact y4 x (by omega) (by omega) (by omega)⟩
  cases ht with
  | may h' =>
    rcases hmc with ⟨h1, h2⟩ | ⟨h1, _⟩
    · exact .inl ⟨h1, rfl, rfl, by omega⟩
    · exact absurd h1 h'
  | full _ h' => omega
  | wr h' _ hw hne =>
    rcases hmc with ⟨h1, _⟩ | ⟨_, h2⟩
    · rw [h'] at h1; cases h1
    rcases hwr _ _ _ hw (by omega) with ⟨h, _⟩ | ⟨rfl, w2, w3, w4, ps, w5, w6⟩
    · exact absurd h hne
    · refine .inr (.inr ⟨rfl, w3, w2, rfl, fun ks => ?_⟩)
      rw [hp, List.nil_append] at w5
      obtain ⟨c1, c2⟩ := crash_ok hok ks
      have hP := fun (q : Int) (h0 : 0 ≤ q) (h1 : q < 514) => crash_P (S := S') (fun q c => (q < beginR (1 - G.s.h) ∨ beginR (1 - G.s.h) + 256 ≤ q → c = secAt S.secs q) ∧ (2 ≤ q → epochOf c ≤ G.s.e ∧ tlE c ≤ G.s.e)) ks
        (fun x hx => by rw [w5] at hx; have := w6 x hx; omega) (fun q h0 h1 => by rw [w4] at h1 ⊢; exact ⟨fun _ => rfl, fun h2 => h.di.mx q h2 (by omega)⟩)
        (fun x hx c m hm hlt hc => by
          rw [w5] at hx
          obtain ⟨x1, x2, x3, x4, x5⟩ := w6 x hx
          refine ⟨fun h => by omega, fun h2 => ?_⟩
          have hc2 := hc.2 h2
          rcases hm with rfl | rfl | rfl
          · simpa using hc2
          · have e1 : epochOf (x.2.take 16 ++ c.drop 16) = epochOf x.2 := (mix_hd x3).1
            have e2 : tlE (x.2.take 16 ++ c.drop 16) = tlE c := (mix_tl x3).1
            rw [e1, e2, x4]
            exact ⟨Int.le_refl _, hc2.2⟩
          · rw [List.take_of_length_le (by rw [x3]; exact Nat.le_refl _)]
            by_cases hcl : c.length ≤ 32
            · rw [List.drop_eq_nil_of_le hcl, List.append_nil, x4, x5]
              exact ⟨Int.le_refl _, Int.le_refl _⟩
            · have e1 : ∀ k : Nat, k < 32 → bat (x.2 ++ c.drop 32) (k : Int) = bat x.2 (k : Int) := fun k hk => by
                rw [bat_nat, bat_nat, List.getD_eq_getElem?_getD, List.getD_eq_getElem?_getD, List.getElem?_append_left (by omega)]
              have f0 := e1 0 (by decide); have f1 := e1 1 (by decide); have f30 := e1 30 (by decide); have f31 := e1 31 (by decide)
              have g1 : epochOf (x.2 ++ c.drop 32) = epochOf x.2 := by
                show bat (x.2 ++ c.drop 32) ((0 : Nat) : Int) * 2 ^ 8 + bat (x.2 ++ c.drop 32) ((1 : Nat) : Int) = bat x.2 ((0 : Nat) : Int) * 2 ^ 8 + bat x.2 ((1 : Nat) : Int)
                rw [f0, f1]
              have g2 : tlE (x.2 ++ c.drop 32) = tlE x.2 := by
                show bat (x.2 ++ c.drop 32) ((30 : Nat) : Int) * 2 ^ 8 + bat (x.2 ++ c.drop 32) ((31 : Nat) : Int) = bat x.2 ((30 : Nat) : Int) * 2 ^ 8 + bat x.2 ((31 : Nat) : Int)
                rw [f30, f31]
              rw [g1, g2, x4, x5]
              exact ⟨Int.le_refl _, Int.le_refl _⟩) h0 (by rw [w4]; omega)
      exact hkeep _ (by rw [c1, w4]; exact hl) c2 (fun p hp2 hp3 => (hP p (by omega) hp3).2 hp2) (fun p h0 h1 h3 => (hP p h0 h1).1 h3)
  | st h' _ hw hne =>
    rename_i S1 wa0 hno0
    rcases hmc with ⟨h1, _⟩ | ⟨_, h2⟩
    · rw [h'] at h1; cases h1
    rcases hwr _ _ _ hw (by omega) with ⟨_, _, w2, w3, w4, w5, w6, w7⟩ | ⟨h, _⟩
    · rcases store_cases w3 w2 (by omega) (s := turnS G) (by show mayM G.s.e (G.s.n + 1) = true; unfold mayM; simp only [Bool.and_eq_true, decide_eq_true_eq]; omega) (by show 0 ≤ G.s.n + 1; omega) with ⟨hs, hl0⟩ | ⟨l, hs, _⟩
      · rw [hs] at hok ⊢
        have wa : ∀ x ∈ S1.secs, x.length = 32 := hok.2.1
        obtain ⟨i1, i2, i3⟩ := hin S1 w2 (by omega) wa (by omega) (fun p h0 h1 h3 => w6 p h0 h1 (by omega)) w7
        refine .inr (.inr ⟨rfl, fun hc => by have := w4 hc; omega, rfl, rfl, fun ks => ?_⟩)
        rw [crash_nil (by exact w2)]
        exact hkeep _ (by show S1.secs.length = 514; omega) wa i1 (fun p h0 h1 h3 => i3 p h0 h1 (by omega))
      · rw [hs] at hne; exact absurd rfl hne
    · cases h
  | ok h' _ hw hz =>
    rename_i S1 wa0 hno0
    rcases hmc with ⟨h1, _⟩ | ⟨_, h2⟩
    · rw [h'] at h1; cases h1
    rcases hwr _ _ _ hw (by omega) with ⟨_, rfl, w2, w3, w4, w5, w6, w7⟩ | ⟨h, _⟩
    · rcases store_cases w3 w2 (by omega) (s := turnS G) (by show mayM G.s.e (G.s.n + 1) = true; unfold mayM; simp only [Bool.and_eq_true, decide_eq_true_eq]; omega) (by show 0 ≤ G.s.n + 1; omega) with ⟨hs, hl0⟩ | ⟨l, hs, hl1⟩
      · rw [hs] at hz; cases hz
      rw [hs] at hok ⊢
      have hsec : ∀ q : Int, 0 ≤ q → secAt (S1.secs.set ((turnS G).n % 2).toNat (slotX (turnS G))) q = if (turnS G).n % 2 = q then slotX (turnS G) else secAt S1.secs q := fun q hq => sec_set (by omega) (by omega) hq
      have htn : (turnS G).n = G.s.n + 1 := rfl
      have hte : (turnS G).e = G.s.e := rfl
      have hth : (turnS G).h = 1 - G.s.h := rfl
      have hsT : SlotOk (turnS G) := by
        unfold SlotOk turnS
        dsimp only
        omega
      -- the sectors of the disk with the new slot
      have hS2 : ∀ q : Int, 2 ≤ q → secAt (S1.secs.set ((turnS G).n % 2).toNat (slotX (turnS G))) q = secAt S1.secs q := fun q hq => by rw [hsec q (by omega), if_neg (by omega)]
      have wa : ∀ p : Int, 2 ≤ p → p < 514 → True := fun _ _ _ => trivial
      obtain ⟨i1, i2, i3⟩ := hin { S1 with secs := S1.secs } w2 (by show S1.secs.length = 514; omega) (fun x hx => by
        obtain ⟨k, hk, rfl⟩ := List.getElem_of_mem hx
        by_cases hc : k = ((turnS G).n % 2).toNat
        · have := w6 (k : Int) (by omega) (by omega) (by omega)
          rw [readR_nil w2, readR_nil hp] at this
          have h3 := secAt_len h.di.all (p := (k : Int)) (by omega) (by omega)
          rw [← this] at h3
          have e : secAt S1.secs (k : Int) = S1.secs[k] := by
            unfold secAt
            rw [Int.toNat_natCast, List.getD_eq_getElem?_getD, List.getElem?_eq_getElem hk]
            rfl
          rw [← e]
          exact h3
        · have hk2 : k < (S1.secs.set ((turnS G).n % 2).toNat (slotX (turnS G))).length := by rw [List.length_set]; exact hk
          have := hok.2.1 _ (List.getElem_mem hk2)
          rwa [List.getElem_set_ne (by omega)] at this) (by omega) (fun p h0 h1 h3 => w6 p h0 h1 (by omega)) w7
      replace i1 : ∀ p : Int, 2 ≤ p → p < 514 → epochOf (secAt S1.secs p) ≤ G.s.e ∧ tlE (secAt S1.secs p) ≤ G.s.e := i1
      replace i2 : ∀ p : Int, 2 ≤ p → p < 514 → (epochOf (secAt S1.secs p) = G.s.e → seqOf (secAt S1.secs p) < G.nx + (bss.length : Nat)) ∧ (tlE (secAt S1.secs p) = G.s.e → tlQ (secAt S1.secs p) < G.nx + (bss.length : Nat)) := i2
      replace i3 : ∀ p : Int, 0 ≤ p → p < 514 → p < beginR (1 - G.s.h) ∨ beginR (1 - G.s.h) + (needS bss : Nat) ≤ p → secAt S1.secs p = secAt S.secs p := i3
      refine .inr (.inl ⟨rfl, by omega, ⟨w3, rfl, hbad, ⟨?_, hok.2.1, hsT, ?_, Int.le_refl _, ?_, ?_, fun p hp2 hp3 => ?_, ?_⟩, fun p hp2 hp3 => ?_⟩, by rw [hbad], fun hc => hl1 (w4 hc)⟩)
      · dsimp only; rw [List.length_set]; omega
      · show 1 ≤ G.s.n + 1
        omega
      · show secAt (S1.secs.set ((turnS G).n % 2).toNat (slotX (turnS G))) ((turnS G).n % 2) = _
        rw [hsec _ (by omega), if_pos rfl]
      · show tlQ (secAt (S1.secs.set ((turnS G).n % 2).toNat (slotX (turnS G))) (((turnS G).n + 1) % 2)) < (turnS G).n
        rw [hsec _ (by omega), if_neg (by omega), show ((turnS G).n + 1) % 2 = G.s.n % 2 by omega, i3 _ (by omega) (by omega) (by omega), h.di.sl, slot_tl hso]
        omega
      · show epochOf (secAt (S1.secs.set ((turnS G).n % 2).toNat (slotX (turnS G))) p) ≤ G.s.e ∧ tlE (secAt (S1.secs.set ((turnS G).n % 2).toNat (slotX (turnS G))) p) ≤ G.s.e
        rw [hS2 p hp2]
        exact i1 p hp2 hp3
      · have hr2 : ∀ p : Int, beginR (1 - G.s.h) ≤ p → readR (flat (S1.secs.set ((turnS G).n % 2).toNat (slotX (turnS G)))) p = readR S1 p := fun p hp => by
          rw [readR_nil rfl, readR_nil w2]
          exact hS2 p (by omega)
        show Recs (flat (S1.secs.set ((turnS G).n % 2).toNat (slotX (turnS G)))) (beginR (1 - G.s.h) + 256) G.s.e G.s.e (beginR (1 - G.s.h)) G.nx bss (beginR (1 - G.s.h) + (needS bss : Nat)) (G.nx + (bss.length : Nat))
        refine rows_recs (S := flat (S1.secs.set ((turnS G).n % 2).toNat (slotX (turnS G)))) rfl (en := beginR (1 - G.s.h) + 256) (e := G.s.e) (by
          show beginR (1 - G.s.h) + 256 ≤ (((S1.secs.set ((turnS G).n % 2).toNat (slotX (turnS G))).length : Nat) : Int)
          rw [List.length_set]; omega) (by omega) (rows_same hr2 w7) (by omega) fun me b' next hfr hm1 hm2 => ?_
        obtain ⟨f1, f2, f3⟩ := frr_mark hfr
        rw [readR_nil rfl] at f2 f3
        have f4 := i2 (beginR (1 - G.s.h) + (needS bss : Nat)) (by omega) (by omega)
        rw [← hS2 _ (by omega)] at f4
        have f5 : seqOf (secAt (S1.secs.set ((turnS G).n % 2).toNat (slotX (turnS G))) (beginR (1 - G.s.h) + (needS bss : Nat))) < G.nx + (bss.length : Nat) := f4.1 (by
          have e : epochOf (secAt (S1.secs.set ((turnS G).n % 2).toNat (slotX (turnS G))) (beginR (1 - G.s.h) + (needS bss : Nat))) = me := f2
          omega)
        have f6 : seqOf (secAt (S1.secs.set ((turnS G).n % 2).toNat (slotX (turnS G))) (beginR (1 - G.s.h) + (needS bss : Nat))) = G.nx + (bss.length : Nat) := f3
        omega
      · show (epochOf (secAt (S1.secs.set ((turnS G).n % 2).toNat (slotX (turnS G))) p) = G.s.e → seqOf (secAt (S1.secs.set ((turnS G).n % 2).toNat (slotX (turnS G))) p) < G.nx + (bss.length : Nat)) ∧ (tlE (secAt (S1.secs.set ((turnS G).n % 2).toNat (slotX (turnS G))) p) = G.s.e → tlQ (secAt (S1.secs.set ((turnS G).n % 2).toNat (slotX (turnS G))) p) < G.nx + (bss.length : Nat))
        rw [hS2 p hp2]
        exact i2 p hp2 hp3
    · cases h
end Go.Proofs.YthocicjjighbnaaX
