/- Parts of a proof, joined: walks through the program's functions and their laws, in the order in which they need each other. -/
import Derived.Test.YtadgbifmiooikaaGreatPSj
import Derived.Test.YtadgbifmiooikaaGreatPSb
import Derived.Test.YtadgbifmiooikaaGreatPSg
import Derived.Test.YtadgbifmiooikaaGreatPSf
namespace Go.Proofs.YtadgbifmiooikaaGreatX
set_option linter.unusedVariables false
set_option linter.unusedSimpArgs false
open Go Go.RowKit
theorem may_cases {G : LG} {room : Int} {bss : List (List UInt8)} (hb : G.bad = 0) (hn : ∀ b ∈ bss, needN b.length ≤ 255) (hx : G.nx + (bss.length : Nat) ≤ 16777216) : (mayL G room bss = 5 ∧ room < (needS bss : Nat)) ∨ (mayL G room bss = 0 ∧ (needS bss : Nat) ≤ room) := by
  unfold mayL; rw [if_neg (by rw [hb]; decide)]
  by_cases h : room < (needS bss : Nat)
  · rw [if_pos (.inl h)]; exact .inl ⟨rfl, h⟩
  · rw [if_neg (by omega), if_neg]
    · exact .inr ⟨rfl, by omega⟩
    · rw [List.any_eq_true]; rintro ⟨b, h1, h2⟩; have := hn b h1
      simp only [decide_eq_true_eq] at h2
      omega
theorem needS_one (b : List UInt8) : needS [b] = needN b.length := by simp [needS]
theorem LI.dn {S : DS} {G : LG} {bs : List (List UInt8)} (h : LI S G bs) : S.down = false ∧ S.pend = [] ∧ G.bad = 0 ∧ S.secs.length = 514 ∧ SlotOk G.s := ⟨h.on, h.pn, h.ok, h.di.len, h.di.so⟩
theorem torn_pend {at_ : Int} {f : Nat → List UInt8} {k : Nat} {old : Int → List UInt8} (hf : ∀ j, j < k → (f j).length = 32) (x : Int × List UInt8) (hx : x ∈ putP at_ f k) (c : List UInt8) (m : Nat) (hm : m = 0 ∨ m = 16 ∨ m = 32)
    (hc : c = old x.1 ∨ ∃ j : Nat, j < k ∧ x.1 = at_ + (j : Int) ∧ (c = f j ∨ c = mixB (f j) (old x.1))) (hl : (old x.1).length = 32) : x.2.take m ++ c.drop m = old x.1 ∨ ∃ j : Nat, j < k ∧ x.1 = at_ + (j : Int) ∧ (x.2.take m ++ c.drop m = f j ∨ x.2.take m ++ c.drop m = mixB (f j) (old x.1)) := by
  obtain ⟨j, hj, rfl⟩ := putP_mem hx; dsimp only at hc hl ⊢
  have hcl : c.length = 32 := by
    rcases hc with rfl | ⟨i, hi, he, rfl | rfl⟩
    · exact hl
    · exact hf i hi
    · unfold mixB; rw [List.length_append, List.length_take, List.length_drop, hf i hi, hl]
      rfl
  rcases hm with rfl | rfl | rfl
  · simpa using hc
  · refine .inr ⟨j, hj, rfl, ?_⟩
    rcases hc with rfl | ⟨i, hi, he, rfl | rfl⟩
    · exact .inr rfl
    · obtain rfl : i = j := by omega
      exact .inl (List.take_append_drop 16 _)
    · obtain rfl : i = j := by omega
      refine .inr ?_; unfold mixB; rw [List.drop_append, List.drop_eq_nil_of_le (by rw [List.length_take]; omega), List.length_take, hf i hi]
      simp
  · refine .inr ⟨j, hj, rfl, .inl ?_⟩; rw [List.take_of_length_le (by rw [hf j hj]; exact Nat.le_refl _), List.drop_eq_nil_of_le (by omega), List.append_nil]
theorem append_li {S S' : DS} {G G' : LG} {bs : List (List UInt8)} {b : List UInt8} {er : Int} (h : LI S G bs) (hb : needN b.length ≤ 255) (hx : G.nx < 16777215) (hok : DOk S') (ha : ApR S G b S' G' er) :
    (er = 5 ∧ S' = S ∧ G' = G ∧ roomR G < (needN b.length : Nat)) ∨
    (er = 0 ∧ (needN b.length : Nat) ≤ roomR G ∧ LI S' G' (bs ++ [b]) ∧ G' = G.to (G.at_ + (needN b.length : Nat)) (G.nx + 1) ∧ (S.left = -1 → S'.left = -1)) ∨
    (er = 8 ∧ S.left ≠ -1 ∧ S'.down = true ∧ G' = G.ill 8 ∧ ∀ ks, DI (crashR S' ks).secs G.s bs G.at_ G.nx) := by
  obtain ⟨hd, hp, hbad, hl, hso⟩ := h.dn; have hrg := h.di.rng; have hso' := hso; unfold SlotOk at hso'; have hroom : roomR G = beginR G.s.h + 256 - G.at_ := rfl; have hmc := may_cases (G := G) (room := roomR G) (bss := [b]) hbad (fun c hc => by rw [List.mem_singleton] at hc; subst hc; exact hb) (by simp; omega); rw [needS_one] at hmc
  have hm : mayM G.s.e G.nx = true := by unfold mayM; simp only [Bool.and_eq_true, decide_eq_true_eq]; omega
  have hneed := need_room b.length
  cases ha with
  | may h' =>
    rcases hmc with ⟨h1, h2⟩ | ⟨h1, _⟩
    · exact .inl ⟨h1, rfl, rfl, h2⟩
    · exact absurd h1 h'
  | bad h' hw hne =>
    rename_i wa
    rcases hmc with ⟨h1, _⟩ | ⟨_, h2⟩
    · rw [h'] at h1; cases h1
    cases hw with
    | bad hfw _ =>
      have hfw := hfw.out; rw [if_neg (by rw [hm]; simp; omega), if_neg (by omega)] at hfw
      rcases put_endsL hd (by omega) (by omega) (fun k hk => secB_len hm hb hk) hfw with ⟨_, _, _, _, h⟩ | ⟨k, l, hk, rfl, hl0, rfl⟩
      · exact absurd h hne
      refine .inr (.inr ⟨rfl, hl0, rfl, rfl, fun ks => ?_⟩); rw [hp, List.nil_append] at hok ⊢; obtain ⟨c1, c2⟩ := crash_ok hok ks
      have hf : ∀ j, j < k → (secB G.s.e G.nx b j).length = 32 := fun j hj => secB_len hm hb (by omega)
      have hP := fun (q : Int) (h0 : 0 ≤ q) (h1 : q < 514) => crash_P (S := { S with pend := putP G.at_ (secB G.s.e G.nx b) k, left := l, down := true }) (fun q c => c = secAt S.secs q ∨ ∃ j : Nat, j < k ∧ q = G.at_ + (j : Int) ∧ (c = secB G.s.e G.nx b j ∨ c = mixB (secB G.s.e G.nx b j) (secAt S.secs q))) ks
        (fun x hx => by obtain ⟨j, _, rfl⟩ := putP_mem hx; dsimp only; omega) (fun q _ _ => .inl rfl)
        (fun x hx c m hm' hlt hc => torn_pend (old := secAt S.secs) hf x hx c m hm' hc (secAt_len h.di.all (by obtain ⟨j, _, rfl⟩ := putP_mem hx; dsimp only; omega) hlt)) h0 (by show q < (S.secs.length : Int); omega)
      generalize hY : (crashR { S with pend := putP G.at_ (secB G.s.e G.nx b) k, left := l, down := true } ks).secs = Y at c1 c2 hP ⊢
      replace c1 : Y.length = 514 := by rw [c1]; exact hl
      have hold : ∀ q : Int, 0 ≤ q → q < 514 → q < G.at_ → secAt Y q = secAt S.secs q := fun q h0 h1 h2 => by
        rcases hP q h0 h1 with h | ⟨j, _, h, _⟩
        · exact h
        · omega
      refine ⟨c1, c2, hso, h.di.n1, h.di.be, by rw [hold _ (by omega) (by omega) (by omega)]; exact h.di.sl, by rw [hold _ (by omega) (by omega) (by omega)]; exact h.di.ot, fun p hp2 hp3 => ?_, ?_⟩
      · have h0 := h.di.mx p hp2 hp3
        rcases hP p (by omega) hp3 with h | ⟨j, hj, rfl, h | h⟩
        · rw [h]; exact h0
        · have hs := seal_part hm hb (k := j) (by omega); have h3 : epochOf (secB G.s.e G.nx b j) = G.s.e := (seal_hd hs).1; have h4 : tlE (secB G.s.e G.nx b j) = G.s.e := (seal_tl hs).1; rw [h, h3, h4]; exact ⟨Int.le_refl _, Int.le_refl _⟩
        · have hs := seal_part hm hb (k := j) (by omega); have h3 : epochOf (secB G.s.e G.nx b j) = G.s.e := (seal_hd hs).1; rw [h, (mix_hd (hf j hj)).1, (mix_tl (hf j hj)).1, h3]; exact ⟨Int.le_refl _, h0.2⟩
      · have hlen : (flat Y).secs.length = (flat S.secs).secs.length := by show Y.length = S.secs.length; omega
        obtain ⟨least', e1, e2, e3, e4⟩ := recs_ext (S' := flat Y) hlen rfl (Int.le_refl _) h.di.rc (fun x hx hx2 => by
          rw [readR_nil rfl, readR_nil rfl]
          exact hold x (by omega) (by omega) hx2)
        have e5 := e4 [] _ _ (recs_stop fun me b' next hfr hm1 hm2 => by
          obtain ⟨n', n1, n2, n3, n4, n5, n6, n7, n8, n9, n10⟩ := frr_inv hfr
          have hop : ∀ i : Nat, i < n' → G.at_ + (i : Int) < 514 ∧ epochOf (secAt Y (G.at_ + (i : Int))) = me ∧ seqOf (secAt Y (G.at_ + (i : Int))) = G.nx ∧ tlE (secAt Y (G.at_ + (i : Int))) = me ∧ tlQ (secAt Y (G.at_ + (i : Int))) = G.nx := fun i hi => by
            obtain ⟨h1, h2⟩ := n4 i hi; have h3 := open_marks (x := readR (flat Y) (G.at_ + (i : Int))) h2.1; have h4 := h2.2.1; rw [← n5, ← n6] at h4
            simp only [List.cons.injEq, and_true] at h4
            rw [show openR (readR (flat Y) (G.at_ + (i : Int))) = oAt (flat Y) G.at_ i from rfl, h4.1, h4.2, readR_nil rfl] at h3; exact ⟨by omega, h3⟩
          by_cases hme : me = G.s.e
          · have hnew : ∀ i : Nat, i < n' → i < k ∧ secAt Y (G.at_ + (i : Int)) = secB G.s.e G.nx b i := fun i hi => by
              obtain ⟨h1, h2, h3, h4, h5⟩ := hop i hi; have hst := h.st (G.at_ + (i : Int)) (by omega) h1
              rcases hP (G.at_ + (i : Int)) (by omega) h1 with h | ⟨j, hj, he, h | h⟩
              · rw [h] at h4 h5; have := hst.2 (by omega); omega
              · obtain rfl : i = j := by omega
                exact ⟨hj, h⟩
              · rw [h, (mix_tl (hf j hj)).1] at h4; rw [h, (mix_tl (hf j hj)).2] at h5; have := hst.2 (by omega); omega
            have h0 := (hnew 0 (by omega)).2
            have h1 : (oAt (flat Y) G.at_ 0).n = (needN b.length : Nat) := by
              unfold oAt; rw [readR_nil rfl]
              show (openR (secAt Y (G.at_ + ((0 : Nat) : Int)))).n = _
              rw [h0, secB_open hm hb (by omega)]
            have h2 := (hnew (needN b.length - 1) (by omega)).1; omega
          · have hsame : ∀ i : Nat, i < n' → secAt Y (G.at_ + (i : Int)) = secAt S.secs (G.at_ + (i : Int)) := fun i hi => by
              obtain ⟨h1, h2, h3, h4, h5⟩ := hop i hi
              rcases hP (G.at_ + (i : Int)) (by omega) h1 with h | ⟨j, hj, he, h | h⟩
              · exact h
              · have hs := seal_part hm hb (k := j) (by omega); have h6 : epochOf (secB G.s.e G.nx b j) = G.s.e := (seal_hd hs).1; rw [h, h6] at h2; exact absurd h2.symm hme
              · have hs := seal_part hm hb (k := j) (by omega); have h6 : epochOf (secB G.s.e G.nx b j) = G.s.e := (seal_hd hs).1; rw [h, (mix_hd (hf j hj)).1, h6] at h2; exact absurd h2.symm hme
            refine e3 me b' next (frr_loc (S := flat Y) (S' := flat S.secs) hlen.symm rfl hfr fun p hp1 hp2 => ?_) hm1 hm2; have := hsame (p - G.at_).toNat (by omega); rw [show G.at_ + (((p - G.at_).toNat : Nat) : Int) = p by omega] at this; rw [readR_nil rfl, readR_nil rfl]
            exact this.symm)
        rw [List.append_nil] at e5; exact e5
    | step hfw hw2 =>
      cases hw2
      have hfw := hfw.out; rw [if_neg (by rw [hm]; simp; omega), if_neg (by omega)] at hfw
      rcases put_endsL hd (by omega) (by omega) (fun k hk => secB_len hm hb hk) hfw with ⟨l, rfl, _⟩ | ⟨k, l, hk, rfl, hl0, h⟩
      · exact absurd (by rw [flush_ok (by exact hd)]) hne
      · cases h
  | ok h' hw =>
    rcases hmc with ⟨h1, _⟩ | ⟨_, h2⟩
    · rw [h'] at h1; cases h1
    have hns := needS_one b
    rcases wr_ends hw hd (by rw [hp]; simp) (fun c hc => by rw [List.mem_singleton] at hc; subst hc; exact hb) (by omega) (by omega) (by omega) (by omega) (by omega) (by simp; omega) with ⟨_, rfl, w2, w3, w4, w5, w6, w7⟩ | ⟨h, _⟩
    · rw [hns] at w6 ⊢
      have hread : ∀ p : Int, 0 ≤ p → p < 514 → p < G.at_ ∨ G.at_ + (needN b.length : Nat) ≤ p → secAt S'.secs p = secAt S.secs p := fun p h0 h1 h3 => by
        have := w6 p h0 (by omega) h3
        rwa [readR_nil w2, readR_nil hp] at this
      have hmk : ∀ p : Int, G.at_ ≤ p → p < G.at_ + (needN b.length : Nat) → epochOf (secAt S'.secs p) = G.s.e ∧ seqOf (secAt S'.secs p) = G.nx ∧ tlE (secAt S'.secs p) = G.s.e ∧ tlQ (secAt S'.secs p) = G.nx := fun p h0 h1 => by
        obtain ⟨q', m1, m2, m3⟩ := w7.marks p h0 (by rw [hns]; exact h1)
        obtain rfl : q' = G.nx := by simp at m2; omega
        rwa [readR_nil w2] at m3
      have hstr : ∀ p : Int, 2 ≤ p → p < 514 → (epochOf (secAt S'.secs p) = G.s.e → seqOf (secAt S'.secs p) < G.nx + 1) ∧ (tlE (secAt S'.secs p) = G.s.e → tlQ (secAt S'.secs p) < G.nx + 1) := fun p hp2 hp3 => by
        by_cases hc : G.at_ ≤ p ∧ p < G.at_ + (needN b.length : Nat)
        · have := hmk p hc.1 hc.2; exact ⟨fun _ => by omega, fun _ => by omega⟩
        · rw [hread p (by omega) hp3 (by omega)]; have := h.st p hp2 hp3; exact ⟨fun he => by have := this.1 he; omega, fun he => by have := this.2 he; omega⟩
      refine .inr (.inl ⟨rfl, h2, ⟨w3, w2, hbad, ⟨by omega, hok.2.1, hso, h.di.n1, h.di.be, ?_, ?_, fun p hp2 hp3 => ?_, ?_⟩, hstr⟩, rfl, w4⟩)
      · show secAt S'.secs (G.s.n % 2) = slotX G.s
        rw [hread _ (by omega) (by omega) (by omega)]; exact h.di.sl
      · show tlQ (secAt S'.secs ((G.s.n + 1) % 2)) < G.s.n
        rw [hread _ (by omega) (by omega) (by omega)]; exact h.di.ot
      · show epochOf (secAt S'.secs p) ≤ G.s.e ∧ tlE (secAt S'.secs p) ≤ G.s.e
        by_cases hc : G.at_ ≤ p ∧ p < G.at_ + (needN b.length : Nat)
        · have := hmk p hc.1 hc.2; omega
        · rw [hread p (by omega) hp3 (by omega)]; exact h.di.mx p hp2 hp3
      · have hlen : (flat S'.secs).secs.length = (flat S.secs).secs.length := w5
        obtain ⟨least', e1, e2, e3, e4⟩ := recs_ext (S' := flat S'.secs) hlen rfl (Int.le_refl _) h.di.rc (fun x hx hx2 => by
          rw [readR_nil rfl, readR_nil rfl]
          exact hread x (by omega) (by omega) (.inl hx2))
        have hbe := h.di.be; have hh : Holds (flat S'.secs) G.at_ G.s.e G.nx b := ⟨w7.1.1, w7.1.2.1, fun k hk => by rw [← read_flat w2]; exact w7.1.2.2 k hk⟩; refine e4 [b] _ _ (.step (frr_holds hh rfl (by omega) (by omega) (by show beginR G.s.h + 256 ≤ ((S'.secs.length : Nat) : Int); omega)) (by omega) (Int.le_refl _) (recs_stop fun me b' next hfr hm1 hm2 => ?_)); obtain ⟨f1, f2, f3⟩ := frr_mark hfr; rw [readR_nil rfl] at f2 f3; have := h.st (G.at_ + (needN b.length : Nat)) (by omega) (by omega); rw [← hread _ (by omega) (by omega) (.inr (Int.le_refl _))] at this; have f4 : seqOf (secAt S'.secs (G.at_ + (needN b.length : Nat))) < G.nx := this.1 (by have e : epochOf (secAt S'.secs (G.at_ + (needN b.length : Nat))) = me := f2; omega); have f5 : seqOf (secAt S'.secs (G.at_ + (needN b.length : Nat))) = G.nx + 1 := f3; omega
    · cases h
theorem rows_recs {S : DS} (hd : S.down = false) {en e : Int} (hen : en ≤ S.secs.length) : ∀ {bss : List (List UInt8)} {at_ q : Int}, 0 ≤ at_ → RowsAt S e at_ q bss → at_ + (needS bss : Nat) ≤ en → NoRec S en e e (at_ + (needS bss : Nat)) (q + (bss.length : Nat)) → Recs S en e e at_ q bss (at_ + (needS bss : Nat)) (q + (bss.length : Nat))
  | [], at_, q, h0, _, h1, h2 => by
    have e1 : at_ + ((needS [] : Nat) : Int) = at_ := by simp [needS]
    have e2 : q + ((([] : List (List UInt8)).length : Nat) : Int) = q := by simp
    rw [e1, e2] at h2 ⊢; exact recs_stop h2
  | b :: r, at_, q, h0, h, h1, h2 => by
    rw [needS_cons] at h1
    have e1 : at_ + ((needS (b :: r) : Nat) : Int) = at_ + (needN b.length : Nat) + (needS r : Nat) := by rw [needS_cons]; omega
    have e2 : q + (((b :: r).length : Nat) : Int) = q + 1 + (r.length : Nat) := by rw [List.length_cons]; omega
    rw [e1, e2] at h2 ⊢; exact .step (frr_holds h.1 hd h0 (by omega) hen) (Int.le_refl _) (Int.le_refl _) (rows_recs hd hen (by omega) h.2 (by omega) h2)
theorem rows_same {S S' : DS} {e : Int} : ∀ {bss : List (List UInt8)} {at_ q : Int}, (∀ p, at_ ≤ p → readR S' p = readR S p) → RowsAt S e at_ q bss → RowsAt S' e at_ q bss
  | [], at_, q, _, _ => trivial
  | b :: r, at_, q, hr, h => ⟨⟨h.1.1, h.1.2.1, fun k hk => by rw [hr _ (by omega)]; exact h.1.2.2 k hk⟩, rows_same (fun p hp => hr p (by omega)) h.2⟩
theorem beg (h : Int) : beginR h = 2 + h * 256 := rfl
theorem turn_li {S S' : DS} {G G' : LG} {bs bss : List (List UInt8)} {er : Int} (h : LI S G bs) (hb : ∀ b ∈ bss, needN b.length ≤ 255) (hx : G.nx + (bss.length : Nat) ≤ 16777215) (hn : G.s.n < 16777214) (hok : DOk S') (ht : TuR S G bss S' G' er) :
    (er = 5 ∧ S' = S ∧ G' = G ∧ 256 < needS bss) ∨
    (er = 0 ∧ needS bss ≤ 256 ∧ LI S' G' bss ∧ G' = ⟨turnS G, beginR (1 - G.s.h) + (needS bss : Nat), G.nx + (bss.length : Nat), 0⟩ ∧ (S.left = -1 → S'.left = -1)) ∨
    (er = 8 ∧ S.left ≠ -1 ∧ S'.down = true ∧ G' = G.ill 8 ∧ ∀ ks, DI (crashR S' ks).secs G.s bs G.at_ G.nx) := by
  obtain ⟨hd, hp, hbad, hl, hso⟩ := h.dn; have hrg := h.di.rng; have hso' := hso; unfold SlotOk at hso'; have hb1 := beg (1 - G.s.h); have hmc := may_cases (G := G) (room := 256) hbad hb (by omega)
  have hwr : ∀ S1 a er, WrR G.s.e S (beginR (1 - G.s.h)) G.nx bss S1 a er → needS bss ≤ 256 → _ := fun S1 a er hw h2 => wr_ends hw hd (by rw [hp]; simp) hb (by omega) (by omega) (by omega) (by omega) (by omega) (by omega)
  have hin : ∀ S1 : DS, S1.pend = [] → S1.secs.length = 514 → (∀ x ∈ S1.secs, x.length = 32) → needS bss ≤ 256 → (∀ p : Int, 0 ≤ p → p < (S.secs.length : Int) → p < beginR (1 - G.s.h) ∨ beginR (1 - G.s.h) + (needS bss : Nat) ≤ p → readR S1 p = readR S p) → RowsAt S1 G.s.e (beginR (1 - G.s.h)) G.nx bss →
      (∀ p : Int, 2 ≤ p → p < 514 → epochOf (secAt S1.secs p) ≤ G.s.e ∧ tlE (secAt S1.secs p) ≤ G.s.e) ∧ (∀ p : Int, 2 ≤ p → p < 514 → (epochOf (secAt S1.secs p) = G.s.e → seqOf (secAt S1.secs p) < G.nx + (bss.length : Nat)) ∧ (tlE (secAt S1.secs p) = G.s.e → tlQ (secAt S1.secs p) < G.nx + (bss.length : Nat))) ∧
      (∀ p : Int, 0 ≤ p → p < 514 → p < beginR (1 - G.s.h) ∨ beginR (1 - G.s.h) + (needS bss : Nat) ≤ p → secAt S1.secs p = secAt S.secs p) := fun S1 w2 w5 wa h2 w6 w7 => by
    have hread : ∀ p : Int, 0 ≤ p → p < 514 → p < beginR (1 - G.s.h) ∨ beginR (1 - G.s.h) + (needS bss : Nat) ≤ p → secAt S1.secs p = secAt S.secs p := fun p h0 h1 h3 => by
      have := w6 p h0 (by omega) h3
      rwa [readR_nil w2, readR_nil hp] at this
    have hmk : ∀ p : Int, beginR (1 - G.s.h) ≤ p → p < beginR (1 - G.s.h) + (needS bss : Nat) → ∃ q', G.nx ≤ q' ∧ q' < G.nx + (bss.length : Nat) ∧ epochOf (secAt S1.secs p) = G.s.e ∧ seqOf (secAt S1.secs p) = q' ∧ tlE (secAt S1.secs p) = G.s.e ∧ tlQ (secAt S1.secs p) = q' := fun p h0 h1 => by
      have := w7.marks p h0 h1
      rwa [readR_nil w2] at this
    refine ⟨fun p hp2 hp3 => ?_, fun p hp2 hp3 => ?_, hread⟩
    · by_cases hc : beginR (1 - G.s.h) ≤ p ∧ p < beginR (1 - G.s.h) + (needS bss : Nat)
      · obtain ⟨q', m1, m2, m3, m4, m5, m6⟩ := hmk p hc.1 hc.2; omega
      · rw [hread p (by omega) hp3 (by omega)]; exact h.di.mx p hp2 hp3
    · by_cases hc : beginR (1 - G.s.h) ≤ p ∧ p < beginR (1 - G.s.h) + (needS bss : Nat)
      · obtain ⟨q', m1, m2, m3, m4, m5, m6⟩ := hmk p hc.1 hc.2; exact ⟨fun _ => by omega, fun _ => by omega⟩
      · rw [hread p (by omega) hp3 (by omega)]; have := h.st p hp2 hp3; exact ⟨fun he => by have := this.1 he; omega, fun he => by have := this.2 he; omega⟩
  have hkeep : ∀ Y : List (List UInt8), Y.length = 514 → (∀ x ∈ Y, x.length = 32) → (∀ p : Int, 2 ≤ p → p < 514 → epochOf (secAt Y p) ≤ G.s.e ∧ tlE (secAt Y p) ≤ G.s.e) → (∀ p : Int, 0 ≤ p → p < 514 → p < beginR (1 - G.s.h) ∨ beginR (1 - G.s.h) + 256 ≤ p → secAt Y p = secAt S.secs p) → DI Y G.s bs G.at_ G.nx := fun Y y1 y2 y3 y4 =>
    ⟨y1, y2, hso, h.di.n1, h.di.be, by rw [y4 _ (by omega) (by omega) (by omega)]; exact h.di.sl, by rw [y4 _ (by omega) (by omega) (by omega)]; exact h.di.ot, y3,
      recs_in (S := flat S.secs) (S' := flat Y) (by show Y.length = S.secs.length; omega) rfl h.di.rc fun x hx hx2 => by
        rw [readR_nil rfl, readR_nil rfl]
        exact y4 x (by omega) (by omega) (by omega)⟩
  cases ht with
  | may h' =>
    rcases hmc with ⟨h1, h2⟩ | ⟨h1, _⟩
    · exact .inl ⟨h1, rfl, rfl, by omega⟩
    · exact absurd h1 h'
  | full _ h' => omega
  | wr h' _ hw hne =>
    rcases hmc with ⟨h1, _⟩ | ⟨_, h2⟩
    · rw [h'] at h1; cases h1
    rcases hwr _ _ _ hw (by omega) with ⟨h, _⟩ | ⟨rfl, w2, w3, w4, ps, w5, w6⟩
    · exact absurd h hne
    · refine .inr (.inr ⟨rfl, w3, w2, rfl, fun ks => ?_⟩); rw [hp, List.nil_append] at w5; obtain ⟨c1, c2⟩ := crash_ok hok ks
      have hP := fun (q : Int) (h0 : 0 ≤ q) (h1 : q < 514) => crash_P (S := S') (fun q c => (q < beginR (1 - G.s.h) ∨ beginR (1 - G.s.h) + 256 ≤ q → c = secAt S.secs q) ∧ (2 ≤ q → epochOf c ≤ G.s.e ∧ tlE c ≤ G.s.e)) ks
        (fun x hx => by rw [w5] at hx; have := w6 x hx; omega) (fun q h0 h1 => by rw [w4] at h1 ⊢; exact ⟨fun _ => rfl, fun h2 => h.di.mx q h2 (by omega)⟩)
        (fun x hx c m hm hlt hc => by
          rw [w5] at hx; obtain ⟨x1, x2, x3, x4, x5⟩ := w6 x hx; refine ⟨fun h => by omega, fun h2 => ?_⟩; have hc2 := hc.2 h2
          rcases hm with rfl | rfl | rfl
          · simpa using hc2
          · have e1 : epochOf (x.2.take 16 ++ c.drop 16) = epochOf x.2 := (mix_hd x3).1; have e2 : tlE (x.2.take 16 ++ c.drop 16) = tlE c := (mix_tl x3).1; rw [e1, e2, x4]; exact ⟨Int.le_refl _, hc2.2⟩
          · rw [List.take_of_length_le (by rw [x3]; exact Nat.le_refl _)]
            by_cases hcl : c.length ≤ 32
            · rw [List.drop_eq_nil_of_le hcl, List.append_nil, x4, x5]; exact ⟨Int.le_refl _, Int.le_refl _⟩
            · have e1 : ∀ k : Nat, k < 32 → bat (x.2 ++ c.drop 32) (k : Int) = bat x.2 (k : Int) := fun k hk => by
                rw [bat_nat, bat_nat, List.getD_eq_getElem?_getD, List.getD_eq_getElem?_getD, List.getElem?_append_left (by omega)]
              have f0 := e1 0 (by decide); have f1 := e1 1 (by decide); have f30 := e1 30 (by decide); have f31 := e1 31 (by decide)
              have g1 : epochOf (x.2 ++ c.drop 32) = epochOf x.2 := by
                show bat (x.2 ++ c.drop 32) ((0 : Nat) : Int) * 2 ^ 8 + bat (x.2 ++ c.drop 32) ((1 : Nat) : Int) = bat x.2 ((0 : Nat) : Int) * 2 ^ 8 + bat x.2 ((1 : Nat) : Int)
                rw [f0, f1]
              have g2 : tlE (x.2 ++ c.drop 32) = tlE x.2 := by
                show bat (x.2 ++ c.drop 32) ((30 : Nat) : Int) * 2 ^ 8 + bat (x.2 ++ c.drop 32) ((31 : Nat) : Int) = bat x.2 ((30 : Nat) : Int) * 2 ^ 8 + bat x.2 ((31 : Nat) : Int)
                rw [f30, f31]
              rw [g1, g2, x4, x5]
              exact ⟨Int.le_refl _, Int.le_refl _⟩) h0 (by rw [w4]; omega)
      exact hkeep _ (by rw [c1, w4]; exact hl) c2 (fun p hp2 hp3 => (hP p (by omega) hp3).2 hp2) (fun p h0 h1 h3 => (hP p h0 h1).1 h3)
  | st h' _ hw hne =>
    rename_i S1 wa0 hno0
    rcases hmc with ⟨h1, _⟩ | ⟨_, h2⟩
    · rw [h'] at h1; cases h1
    rcases hwr _ _ _ hw (by omega) with ⟨_, _, w2, w3, w4, w5, w6, w7⟩ | ⟨h, _⟩
    · rcases store_cases w3 w2 (by omega) (s := turnS G) (by show mayM G.s.e (G.s.n + 1) = true; unfold mayM; simp only [Bool.and_eq_true, decide_eq_true_eq]; omega) (by show 0 ≤ G.s.n + 1; omega) with ⟨hs, hl0⟩ | ⟨l, hs, _⟩
      · rw [hs] at hok ⊢; have wa : ∀ x ∈ S1.secs, x.length = 32 := hok.2.1; obtain ⟨i1, i2, i3⟩ := hin S1 w2 (by omega) wa (by omega) (fun p h0 h1 h3 => w6 p h0 h1 (by omega)) w7; refine .inr (.inr ⟨rfl, fun hc => by have := w4 hc; omega, rfl, rfl, fun ks => ?_⟩); rw [crash_nil (by exact w2)]; exact hkeep _ (by show S1.secs.length = 514; omega) wa i1 (fun p h0 h1 h3 => i3 p h0 h1 (by omega))
      · rw [hs] at hne; exact absurd rfl hne
    · cases h
  | ok h' _ hw hz =>
    rename_i S1 wa0 hno0
    rcases hmc with ⟨h1, _⟩ | ⟨_, h2⟩
    · rw [h'] at h1; cases h1
    rcases hwr _ _ _ hw (by omega) with ⟨_, rfl, w2, w3, w4, w5, w6, w7⟩ | ⟨h, _⟩
    · rcases store_cases w3 w2 (by omega) (s := turnS G) (by show mayM G.s.e (G.s.n + 1) = true; unfold mayM; simp only [Bool.and_eq_true, decide_eq_true_eq]; omega) (by show 0 ≤ G.s.n + 1; omega) with ⟨hs, hl0⟩ | ⟨l, hs, hl1⟩
      · rw [hs] at hz; cases hz
      rw [hs] at hok ⊢
      have hsec : ∀ q : Int, 0 ≤ q → secAt (S1.secs.set ((turnS G).n % 2).toNat (slotX (turnS G))) q = if (turnS G).n % 2 = q then slotX (turnS G) else secAt S1.secs q := fun q hq => sec_set (by omega) (by omega) hq
      have htn : (turnS G).n = G.s.n + 1 := rfl; have hte : (turnS G).e = G.s.e := rfl; have hth : (turnS G).h = 1 - G.s.h := rfl
      have hsT : SlotOk (turnS G) := by
        unfold SlotOk turnS; dsimp only; omega
      have hS2 : ∀ q : Int, 2 ≤ q → secAt (S1.secs.set ((turnS G).n % 2).toNat (slotX (turnS G))) q = secAt S1.secs q := fun q hq => by rw [hsec q (by omega), if_neg (by omega)]
      have wa : ∀ p : Int, 2 ≤ p → p < 514 → True := fun _ _ _ => trivial
      obtain ⟨i1, i2, i3⟩ := hin { S1 with secs := S1.secs } w2 (by show S1.secs.length = 514; omega) (fun x hx => by
        obtain ⟨k, hk, rfl⟩ := List.getElem_of_mem hx
        by_cases hc : k = ((turnS G).n % 2).toNat
        · have := w6 (k : Int) (by omega) (by omega) (by omega); rw [readR_nil w2, readR_nil hp] at this; have h3 := secAt_len h.di.all (p := (k : Int)) (by omega) (by omega); rw [← this] at h3
          have e : secAt S1.secs (k : Int) = S1.secs[k] := by
            unfold secAt; rw [Int.toNat_natCast, List.getD_eq_getElem?_getD, List.getElem?_eq_getElem hk]
            rfl
          rw [← e]; exact h3
        · have hk2 : k < (S1.secs.set ((turnS G).n % 2).toNat (slotX (turnS G))).length := by rw [List.length_set]; exact hk
          have := hok.2.1 _ (List.getElem_mem hk2)
          rwa [List.getElem_set_ne (by omega)] at this) (by omega) (fun p h0 h1 h3 => w6 p h0 h1 (by omega)) w7
      replace i1 : ∀ p : Int, 2 ≤ p → p < 514 → epochOf (secAt S1.secs p) ≤ G.s.e ∧ tlE (secAt S1.secs p) ≤ G.s.e := i1; replace i2 : ∀ p : Int, 2 ≤ p → p < 514 → (epochOf (secAt S1.secs p) = G.s.e → seqOf (secAt S1.secs p) < G.nx + (bss.length : Nat)) ∧ (tlE (secAt S1.secs p) = G.s.e → tlQ (secAt S1.secs p) < G.nx + (bss.length : Nat)) := i2; replace i3 : ∀ p : Int, 0 ≤ p → p < 514 → p < beginR (1 - G.s.h) ∨ beginR (1 - G.s.h) + (needS bss : Nat) ≤ p → secAt S1.secs p = secAt S.secs p := i3; refine .inr (.inl ⟨rfl, by omega, ⟨w3, rfl, hbad, ⟨?_, hok.2.1, hsT, ?_, Int.le_refl _, ?_, ?_, fun p hp2 hp3 => ?_, ?_⟩, fun p hp2 hp3 => ?_⟩, by rw [hbad], fun hc => hl1 (w4 hc)⟩)
      · dsimp only; rw [List.length_set]; omega
      · show 1 ≤ G.s.n + 1
        omega
      · show secAt (S1.secs.set ((turnS G).n % 2).toNat (slotX (turnS G))) ((turnS G).n % 2) = _
        rw [hsec _ (by omega), if_pos rfl]
      · show tlQ (secAt (S1.secs.set ((turnS G).n % 2).toNat (slotX (turnS G))) (((turnS G).n + 1) % 2)) < (turnS G).n
        rw [hsec _ (by omega), if_neg (by omega), show ((turnS G).n + 1) % 2 = G.s.n % 2 by omega, i3 _ (by omega) (by omega) (by omega), h.di.sl, slot_tl hso]; omega
      · show epochOf (secAt (S1.secs.set ((turnS G).n % 2).toNat (slotX (turnS G))) p) ≤ G.s.e ∧ tlE (secAt (S1.secs.set ((turnS G).n % 2).toNat (slotX (turnS G))) p) ≤ G.s.e
        rw [hS2 p hp2]; exact i1 p hp2 hp3
      · have hr2 : ∀ p : Int, beginR (1 - G.s.h) ≤ p → readR (flat (S1.secs.set ((turnS G).n % 2).toNat (slotX (turnS G)))) p = readR S1 p := fun p hp => by
          rw [readR_nil rfl, readR_nil w2]; exact hS2 p (by omega)
        show Recs (flat (S1.secs.set ((turnS G).n % 2).toNat (slotX (turnS G)))) (beginR (1 - G.s.h) + 256) G.s.e G.s.e (beginR (1 - G.s.h)) G.nx bss (beginR (1 - G.s.h) + (needS bss : Nat)) (G.nx + (bss.length : Nat))
        refine rows_recs (S := flat (S1.secs.set ((turnS G).n % 2).toNat (slotX (turnS G)))) rfl (en := beginR (1 - G.s.h) + 256) (e := G.s.e) (by
          show beginR (1 - G.s.h) + 256 ≤ (((S1.secs.set ((turnS G).n % 2).toNat (slotX (turnS G))).length : Nat) : Int)
          rw [List.length_set]; omega) (by omega) (rows_same hr2 w7) (by omega) fun me b' next hfr hm1 hm2 => ?_
        obtain ⟨f1, f2, f3⟩ := frr_mark hfr; rw [readR_nil rfl] at f2 f3; have f4 := i2 (beginR (1 - G.s.h) + (needS bss : Nat)) (by omega) (by omega); rw [← hS2 _ (by omega)] at f4
        have f5 : seqOf (secAt (S1.secs.set ((turnS G).n % 2).toNat (slotX (turnS G))) (beginR (1 - G.s.h) + (needS bss : Nat))) < G.nx + (bss.length : Nat) := f4.1 (by
          have e : epochOf (secAt (S1.secs.set ((turnS G).n % 2).toNat (slotX (turnS G))) (beginR (1 - G.s.h) + (needS bss : Nat))) = me := f2
          omega)
        have f6 : seqOf (secAt (S1.secs.set ((turnS G).n % 2).toNat (slotX (turnS G))) (beginR (1 - G.s.h) + (needS bss : Nat))) = G.nx + (bss.length : Nat) := f3; omega
      · show (epochOf (secAt (S1.secs.set ((turnS G).n % 2).toNat (slotX (turnS G))) p) = G.s.e → seqOf (secAt (S1.secs.set ((turnS G).n % 2).toNat (slotX (turnS G))) p) < G.nx + (bss.length : Nat)) ∧ (tlE (secAt (S1.secs.set ((turnS G).n % 2).toNat (slotX (turnS G))) p) = G.s.e → tlQ (secAt (S1.secs.set ((turnS G).n % 2).toNat (slotX (turnS G))) p) < G.nx + (bss.length : Nat))
        rw [hS2 p hp2]; exact i2 p hp2 hp3
    · cases h
end Go.Proofs.YtadgbifmiooikaaGreatX
namespace Go.Proofs.YtadgbifmiooikaaGreatX
set_option linter.unusedVariables false
set_option linter.unusedSimpArgs false
set_option linter.constructorNameAsVariable false
open Go Go.RowKit
theorem zeroB_not : openOk zeroB = false := by decide
theorem zeroB_open : openR zeroB = ⟨0, 0, 0, 0, [], 2⟩ := openR_bad zeroB_not
theorem zeroB_slot : slotAt zeroB = none := by
  unfold slotAt; rw [zeroB_open]
  rfl
theorem zero_norec (Y : List (List UInt8)) (hY : secAt Y 2 = zeroB) : NoRec (flat Y) (beginR slot1.h + 256) slot1.e slot1.b (beginR slot1.h) slot1.f := by
  intro me b next hfr _ _
  generalize beginR slot1.h + 256 = en at hfr
  have e2 : beginR slot1.h = 2 := by decide
  rw [e2] at hfr; have hm := frr_mark hfr; have f3 := hm.2.2; rw [readR_nil rfl] at f3; have f4 : seqOf (secAt Y 2) = 1 := f3; rw [hY] at f4; exact absurd f4 (by decide)
theorem format_di {S S' : DS} {er : Int} (hd : S.down = false) (hl : S.secs.length = 514) (hok : DOk S) (hok' : DOk S') (hf : FmR S S' er) :
    (er = 0 ∧ DI S'.secs slot1 [] 2 1 ∧ S'.pend = [] ∧ S'.down = false ∧ (S.left = -1 → S'.left = -1)) ∨ (er = 8 ∧ S.left ≠ -1 ∧ S'.down = true) := by
  have hz32 : zeroB.length = 32 := rfl
  have hput := fun k (hk : k ≤ 514) hz => put_any hd (at_ := 0) (f := fun _ => zeroB) (n := 514) (by omega) (by omega) (fun _ _ => hz32) k hk hz
  have hflush : ∀ l, (S.left = -1 → l = -1) → zput S 514 = { S with pend := S.pend ++ putP 0 (fun _ => zeroB) 514, left := l } → ∃ X, flushR (zput S 514) = ({ S with secs := X, pend := [], left := l }, 0) ∧ X.length = 514 ∧ ∀ p : Int, 0 ≤ p → p < 514 → secAt X p = zeroB := fun l _ hz => by
    rw [hz]; refine ⟨_, flush_ok (S := { S with pend := S.pend ++ putP 0 (fun _ => zeroB) 514, left := l }) hd, by rw [flush_len]; exact hl, fun p h0 h1 => ?_⟩
    have h2 := flush_read (S := { S with pend := S.pend ++ putP 0 (fun _ => zeroB) 514, left := l }) hd (fun x hx => by
      rcases List.mem_append.1 hx with hx | hx
      · exact (hok.2.2.1 x hx).2
      · obtain ⟨j, hj, rfl⟩ := putP_mem hx; dsimp only
        omega) (p := p) h0 (by show p < (S.secs.length : Int); omega)
    rw [flush_ok (S := { S with pend := S.pend ++ putP 0 (fun _ => zeroB) 514, left := l }) hd, readR_nil rfl] at h2; dsimp only at h2; rw [h2]; have h3 := read_in (S := { S with left := l }) (at_ := 0) (f := fun _ => zeroB) (n := 514) (j := p.toNat) (by omega)
    rwa [show (0 : Int) + ((p.toNat : Nat) : Int) = p by omega] at h3
  cases hf with
  | len h => omega
  | wr _ hk hz hne =>
    rename_i k hk0
    obtain ⟨l, h, hl0⟩ := hput k (by omega) hz; have e1 : zput S (k + 1) = (writeR (putTo S 0 (fun _ => zeroB) k) (0 + (k : Int)) zeroB).1 := rfl; have e2 : zputE S k = (writeR (putTo S 0 (fun _ => zeroB) k) (0 + (k : Int)) zeroB).2 := rfl; rw [h] at e1 e2
    rcases write_cases (S := { S with pend := S.pend ++ putP 0 (fun _ => zeroB) k, left := l }) hd (a := 0 + (k : Int)) (b := zeroB) (by omega) (by show 0 + (k : Int) < (S.secs.length : Int); omega) hz32 with ⟨h', hl'⟩ | ⟨l', h', _⟩
    · rw [h'] at e1 e2; rw [e1, e2]; have hl'' : l = 0 := hl'; exact .inr ⟨rfl, fun hc => by have := hl0 hc; omega, rfl⟩
    · rw [h'] at e2; exact absurd e2 hne
  | fl _ hz hne =>
    obtain ⟨l, h, hl0⟩ := hput 514 (Nat.le_refl _) hz; obtain ⟨X, hX, _⟩ := hflush l hl0 h; rw [hX] at hne; exact absurd rfl hne
  | st _ hz _ =>
    obtain ⟨l, h, hl0⟩ := hput 514 (Nat.le_refl _) hz; obtain ⟨X, hX, hX1, hX2⟩ := hflush l hl0 h; rw [hX] at hok' ⊢; dsimp only at hok' ⊢
    rcases store_cases (S := { S with secs := X, pend := [], left := l }) hd rfl hX1 (s := slot1) (by decide) (by decide) with ⟨hs, hl1⟩ | ⟨l', hs, hl1⟩
    · rw [hs]; have hl'' : l = 0 := hl1; exact .inr ⟨rfl, fun hc => by have := hl0 hc; omega, rfl⟩
    · rw [hs] at hok' ⊢
      have hsec : ∀ q : Int, 0 ≤ q → secAt (X.set (slot1.n % 2).toNat (slotX slot1)) q = if slot1.n % 2 = q then slotX slot1 else secAt X q := fun q hq => sec_set (by decide) (by rw [hX1]; decide) hq
      have h2 : ∀ p : Int, 2 ≤ p → p < 514 → secAt (X.set (slot1.n % 2).toNat (slotX slot1)) p = zeroB := fun p hp hp2 => by
        rw [hsec p (by omega), if_neg (by show ¬ (1 : Int) % 2 = p; omega), hX2 p (by omega) hp2]
      refine .inl ⟨rfl, ⟨by dsimp only; rw [List.length_set]; exact hX1, hok'.2.1, by unfold SlotOk slot1; decide, by decide, by decide, ?_, ?_, fun p hp hp2 => ?_, ?_⟩, rfl, hd, fun hc => hl1 (hl0 hc)⟩
      · show secAt (X.set (slot1.n % 2).toNat (slotX slot1)) (slot1.n % 2) = _
        rw [hsec _ (by decide), if_pos rfl]
      · show tlQ (secAt (X.set (slot1.n % 2).toNat (slotX slot1)) ((slot1.n + 1) % 2)) < slot1.n
        rw [hsec _ (by decide), if_neg (by decide), hX2 _ (by decide) (by show ((1 : Int) + 1) % 2 < 514; omega)]
        decide
      · show epochOf (secAt (X.set (slot1.n % 2).toNat (slotX slot1)) p) ≤ slot1.e ∧ tlE (secAt (X.set (slot1.n % 2).toNat (slotX slot1)) p) ≤ slot1.e
        rw [h2 p hp hp2]
        decide
      · exact recs_stop (zero_norec _ (h2 2 (by omega) (by omega)))
def newL : DS := ⟨List.replicate 514 zeroB, [], -1, false⟩
theorem newL_none : newestR newL = (slot0, 3) := by
  have h : ∀ p : Int, p = 0 ∨ p = 1 → slotAt (readR newL p) = none := fun p hp => by
    rw [readR_nil rfl]
    rcases hp with rfl | rfl <;> exact zeroB_slot
  unfold newestR; rw [if_neg (by decide), if_neg (by show ¬ (List.replicate 514 zeroB).length < 2; rw [List.length_replicate]; decide), h 0 (.inl rfl), h 1 (.inr rfl)]
  rfl
theorem newL_opn {S' : DS} {er : Int} {G : LG} {bs : List (List UInt8)} (h : OpnR newL S' er G bs) : S' = newL ∧ er = 3 := by
  have h0 := newL_none
  cases h with
  | len h => exact absurd (by show ((List.replicate 514 zeroB).length : Int) = 514; rw [List.length_replicate]; omega) h
  | none _ _ => rw [h0]; exact ⟨rfl, rfl⟩
  | st1 _ h _ => rw [h0] at h; cases h
  | full _ h _ _ => rw [h0] at h; cases h
  | st2 _ h _ _ _ => rw [h0] at h; cases h
  | ok _ h _ _ _ _ => rw [h0] at h; cases h
end Go.Proofs.YtadgbifmiooikaaGreatX
namespace Go.Proofs.YtadgbifmiooikaaGreatX
set_option linter.unusedVariables false
set_option linter.unusedSimpArgs false
open Go Go.RowKit Go.Proofs
theorem newR_L : newR 514 = newL := by
  unfold newR newL; rw [if_neg (by decide), if_neg (by decide)]
  rfl
theorem DiskO.ok {d : Value} {S : DS} {Ld : Own} (hd : DiskO d S Ld) : DOk S := by obtain ⟨_, _, _, _, _, _, _, _, _, hok⟩ := hd; exact hok
theorem format_up {w0 w : World} {I : Imm} {L Ld : Own} {d : Value} {S : DS} (hd : DiskO d S Ld) (hst : St w0 w I (Ld ++ L)) (hu : Up S) (hl : S.secs.length = 514) (hpn : S.pend.length ≤ 600000) :
    Calls Tryz.prog 26 #[d] w fun e w' => ∃ I' Ld' S', Imm.le I I' ∧ e = .returned (.int .i64 0) ∧ St w0 w' I' (Ld' ++ L) ∧ DiskO d S' Ld' ∧ Up S' ∧ S'.pend = [] ∧ DI S'.secs slot1 [] 2 1 := by
  refine (format_log hd hst hpn).mono fun e w' ⟨I', Ld', S', er, h1, h2, h3, h4, h5⟩ => ?_
  rcases format_di hu.1 hl hd.ok h4.ok h5 with ⟨rfl, g1, g2, g3, g4⟩ | ⟨_, g, _⟩
  · exact ⟨I', Ld', S', h1, h2, h3, h4, ⟨g3, g4 hu.2⟩, g2, g1⟩
  · exact absurd hu.2 g
theorem open_up {w0 w : World} {I : Imm} {L Ld : Own} {d : Value} {S : DS} {s : Slot} {bs : List (List UInt8)} {a nx : Int} (hd : DiskO d S Ld) (hst : St w0 w I (Ld ++ L)) (hu : Up S) (hp : S.pend = []) (hdi : DI S.secs s bs a nx) (hb : s.n < 16777215 ∧ s.e < 65535) :
    Calls Tryz.prog 27 #[d] w fun e w' => ∃ I' Ld' lb y vs S', Imm.le I I' ∧ e = .returned (.tuple #[.pointer (some ⟨lb, 0, none⟩), y, .int .i64 0]) ∧ St w0 w' I' ((lb, .cells (logV d ⟨s.up, a, nx, 0⟩).toArray 92) :: (Ld' ++ L)) ∧ DiskO d S' Ld' ∧ RdR I' y vs bs ∧ LI S' ⟨s.up, a, nx, 0⟩ bs ∧ Up S' := by
  refine (open_log hd hst (by rw [hp]; exact Nat.zero_le _)).mono fun e w' ⟨I', Ld', Lo, x, y, S', er, G, bs', h1, h2, h3, h4, h5, h6⟩ => ?_
  rcases open_di hu.1 hp hdi hb h6 with ⟨rfl, rfl, rfl, g3, g4⟩ | ⟨_, g, _⟩
  · rcases h5 with ⟨h, _⟩ | ⟨_, lb, vs, rfl, rfl, hr⟩
    · exact absurd rfl h
    · exact ⟨I', Ld', lb, y, vs, S', h1, h2, h3, h4, hr, g3, g3.on, g4 hu.2⟩
  · exact absurd hu.2 g
theorem open_none {w0 w : World} {I : Imm} {L Ld : Own} {d : Value} (hd : DiskO d newL Ld) (hst : St w0 w I (Ld ++ L)) :
    Calls Tryz.prog 27 #[d] w fun e w' => ∃ I' Ld', Imm.le I I' ∧ e = .returned (.tuple #[.pointer none, .slice none 0 0, .int .i64 3]) ∧ St w0 w' I' (Ld' ++ L) ∧ DiskO d newL Ld' := by
  refine (open_log hd hst (Nat.zero_le _)).mono fun e w' ⟨I', Ld', Lo, x, y, S', er, G, bs', h1, h2, h3, h4, h5, h6⟩ => ?_
  obtain ⟨rfl, rfl⟩ := newL_opn h6
  rcases h5 with ⟨_, rfl, rfl, rfl⟩ | ⟨h, _⟩
  · exact ⟨I', Ld', h1, h2, h3, h4⟩
  · cases h
end Go.Proofs.YtadgbifmiooikaaGreatX
namespace Go.Proofs.YtadgbifmiooikaaGreatX
set_option linter.unusedVariables false
set_option linter.unusedSimpArgs false
open Go Go.RowKit
abbrev AT := List (Int × It) × Int
def apE (b : List UInt8) : Int :=
  if wordOf ((decA b).getD []) = putL then (if (putOk ((decA b).getD []) b).isSome = true then 0 else 2)
  else if isNum (atA ((decA b).getD []) 1) = true ∧ ((decA b).getD []).length = 2 then
    (if wordOf ((decA b).getD []) = dropL then 0 else if wordOf ((decA b).getD []) = nextL then 0 else 2)
  else 2
def apS (s : AT) (b : List UInt8) : AT :=
  if wordOf ((decA b).getD []) = putL then match putOk ((decA b).getD []) b with
    | some it => (pput s.1 it.id it, nextR s.2 it.id)
    | none => s
  else if isNum (atA ((decA b).getD []) 1) = true ∧ ((decA b).getD []).length = 2 then
    (if wordOf ((decA b).getD []) = dropL then (pdel s.1 (numOf (atA ((decA b).getD []) 1)), s.2)
    else if wordOf ((decA b).getD []) = nextL then (s.1, if numOf (atA ((decA b).getD []) 1) > s.2 then numOf (atA ((decA b).getD []) 1) else s.2)
    else s)
  else s
theorem Ap_abs {b : List UInt8} {rows rows' : List TRow} {next next' err : Int} (ha : Ap b rows next err rows' next') : err = apE b ∧ (absT rows', next') = apS (absT rows, next) b := by
  unfold Ap at ha; unfold apE apS
  by_cases h1 : wordOf ((decA b).getD []) = putL
  · rw [if_pos h1] at ha ⊢; rw [if_pos h1]
    cases hp : putOk ((decA b).getD []) b with
    | some it =>
      rw [hp] at ha; obtain ⟨rfl, ⟨v, rfl⟩, rfl⟩ := ha; exact ⟨rfl, by rw [absT_put]⟩
    | none =>
      rw [hp] at ha; obtain ⟨rfl, rfl, rfl⟩ := ha; exact ⟨rfl, rfl⟩
  · rw [if_neg h1] at ha ⊢; rw [if_neg h1]
    by_cases h2 : isNum (atA ((decA b).getD []) 1) = true ∧ ((decA b).getD []).length = 2
    · rw [if_pos h2] at ha ⊢; rw [if_pos h2]
      by_cases h3 : wordOf ((decA b).getD []) = dropL
      · rw [if_pos h3] at ha ⊢; rw [if_pos h3]; obtain ⟨rfl, rfl, rfl⟩ := ha; exact ⟨rfl, by rw [absT_del]⟩
      · rw [if_neg h3] at ha ⊢; rw [if_neg h3]
        by_cases h4 : wordOf ((decA b).getD []) = nextL
        · rw [if_pos h4] at ha ⊢; rw [if_pos h4]; obtain ⟨rfl, rfl, rfl⟩ := ha; exact ⟨rfl, rfl⟩
        · rw [if_neg h4] at ha ⊢; rw [if_neg h4]; obtain ⟨rfl, rfl, rfl⟩ := ha; exact ⟨rfl, rfl⟩
    · rw [if_neg h2] at ha ⊢; rw [if_neg h2]; obtain ⟨rfl, rfl, rfl⟩ := ha; exact ⟨rfl, rfl⟩
theorem Ap_ex (b : List UInt8) (rows : List TRow) (next : Int) : ∃ err rows' next', Ap b rows next err rows' next' := by
  unfold Ap
  split
  · split
    · exact ⟨0, _, _, rfl, ⟨.nilIface, rfl⟩, rfl⟩
    · exact ⟨2, _, _, rfl, rfl, rfl⟩
  · split
    · split
      · exact ⟨0, _, _, rfl, rfl, rfl⟩
      · split
        · exact ⟨0, _, _, rfl, rfl, rfl⟩
        · exact ⟨2, _, _, rfl, rfl, rfl⟩
    · exact ⟨2, _, _, rfl, rfl, rfl⟩
def playS (bs : List (List UInt8)) : AT := bs.foldl apS ([], 1)
theorem playS_add (bs : List (List UInt8)) (b : List UInt8) : playS (bs ++ [b]) = apS (playS bs) b := by unfold playS; rw [List.foldl_append]; rfl
def SEq (s t : AT) : Prop := s.2 = t.2 ∧ ∀ k, pget s.1 k = pget t.1 k
theorem SEq.refl (s : AT) : SEq s s := ⟨rfl, fun _ => rfl⟩
theorem SEq.symm {s t : AT} (h : SEq s t) : SEq t s := ⟨h.1.symm, fun k => (h.2 k).symm⟩
theorem SEq.trans {s t u : AT} (h : SEq s t) (h' : SEq t u) : SEq s u := ⟨h.1.trans h'.1, fun k => (h.2 k).trans (h'.2 k)⟩
abbrev Nd (s : AT) : Prop := (s.1.map Prod.fst).Nodup
theorem apS_nd {s : AT} {b : List UInt8} (h : Nd s) : Nd (apS s b) := by
  unfold apS
  split
  · split
    · exact pput_nodup h _ _
    · exact h
  · split
    · split
      · exact pdel_nodup h _
      · split
        · exact h
        · exact h
    · exact h
theorem apS_eq {s t : AT} {b : List UInt8} (hs : Nd s) (ht : Nd t) (h : SEq s t) : SEq (apS s b) (apS t b) := by
  obtain ⟨h1, h2⟩ := h; unfold apS
  split
  · split
    · exact ⟨by dsimp only; rw [h1], fun k => by dsimp only; rw [pget_put, pget_put, h2]⟩
    · exact ⟨h1, h2⟩
  · split
    · split
      · exact ⟨h1, fun k => by dsimp only; rw [pget_del hs, pget_del ht, h2]⟩
      · split
        · exact ⟨by dsimp only; rw [h1], h2⟩
        · exact ⟨h1, h2⟩
    · exact ⟨h1, h2⟩
theorem playS_nd (bs : List (List UInt8)) : Nd (playS bs) := by
  have : ∀ (bs : List (List UInt8)) (s : AT), Nd s → Nd (bs.foldl apS s) := by
    intro bs
    induction bs with
    | nil => intro s h; exact h
    | cons b r ih => intro s h; exact ih _ (apS_nd h)
  exact this bs _ List.nodup_nil
theorem TbI.of {A : List (Int × It)} {next : Int} {s : AT} (h : TbI A next) (e : SEq s (A, next)) (hn : Nd s) : TbI s.1 s.2 := by
  obtain ⟨e1, e2⟩ := e
  have hm : ∀ r ∈ s.1, r ∈ A := fun r hr => pget_mem (by rw [← e2]; exact pget_some hn (k := r.1) (u := r.2) hr)
  have e1' : s.2 = next := e1; exact ⟨hn, fun r hr => h.id r (hm r hr), fun r hr => h.ok r (hm r hr), fun r hr => by rw [e1']; exact h.lt r (hm r hr), by rw [e1']; exact h.nx, by rw [e1']; exact h.nz, fun r hr => h.hl r (hm r hr)⟩
abbrev RecOk (b : List UInt8) : Prop := apE b = 0 ∧ b.length ≤ 1000000
structure SI (bs : List (List UInt8)) (A : List (Int × It)) (next : Int) : Prop where
  ok : ∀ b ∈ bs, RecOk b
  eq : SEq (playS bs) (A, next)
theorem SI.nil : SI [] [] 1 := ⟨by simp, SEq.refl _⟩
theorem SI.add {bs : List (List UInt8)} {A : List (Int × It)} {next : Int} (h : SI bs A next) (hn : (A.map Prod.fst).Nodup) {b : List UInt8} (hb : RecOk b) : SI (bs ++ [b]) (apS (A, next) b).1 (apS (A, next) b).2 := by
  refine ⟨fun x hx => ?_, ?_⟩
  · rcases List.mem_append.1 hx with hx | hx
    · exact h.ok x hx
    · rw [List.mem_singleton.1 hx]; exact hb
  · rw [playS_add]; exact apS_eq (playS_nd bs) hn h.eq
theorem play_recs {A : List (Int × It)} {next : Int} (h : TbI A next) : playS (recsA A next) = (mkT A (keysUp A).length, next) ∧ ∀ b ∈ recsA A next, RecOk b := by
  have key : ∀ j, j ≤ (recsA A next).length → ∃ rows nx, (absT rows, nx) = playS ((recsA A next).take j) ∧ ((j = 0 ∧ rows = [] ∧ nx = 1) ∨ (1 ≤ j ∧ absT rows = mkT A (j - 1) ∧ nx = next)) ∧ ∀ i, i < j → ∀ b, (recsA A next)[i]? = some b → apE b = 0 := by
    intro j
    induction j with
    | zero => intro _; exact ⟨[], 1, rfl, .inl ⟨rfl, rfl, rfl⟩, fun i hi => by omega⟩
    | succ j ih =>
      intro hj; obtain ⟨rows, nx, e, hc, ho⟩ := ih (by omega); obtain ⟨b, hb⟩ : ∃ b, (recsA A next)[j]? = some b := ⟨_, List.getElem?_eq_getElem (by omega)⟩; obtain ⟨err, rows', nx', ha⟩ := Ap_ex b rows nx; obtain ⟨g1, g2, g3⟩ := remake_step h hb hc ha; obtain ⟨a1, a2⟩ := Ap_abs ha; refine ⟨rows', nx', ?_, .inr ⟨by omega, by rw [Nat.add_sub_cancel]; exact g2, g3⟩, fun i hi c hc2 => ?_⟩
      · rw [List.take_add_one, hb]
        show _ = playS (_ ++ [b])
        rw [playS_add, ← e, a2]
      · rcases Nat.lt_or_ge i j with h2 | h2
        · exact ho i h2 c hc2
        · obtain rfl : i = j := by omega
          rw [hb] at hc2
          cases hc2
          rw [← a1, g1]
  obtain ⟨rows, nx, e, hc, ho⟩ := key _ (Nat.le_refl _); rw [List.take_length] at e; refine ⟨?_, fun b hb => ?_⟩
  · rw [← e]; have hl := recsA_len A next
    rcases hc with ⟨h0, _⟩ | ⟨_, h1, h2⟩
    · omega
    · rw [h1, h2, keysUp_len, hl, Nat.add_sub_cancel]
  · obtain ⟨i, hi⟩ := List.getElem?_of_mem hb; exact ⟨ho i (List.getElem?_eq_some_iff.1 hi).1 b hi, recsA_bound h hi⟩
theorem mkT_seq {A : List (Int × It)} {next : Int} (h : TbI A next) : SEq (mkT A (keysUp A).length, next) (A, next) := ⟨rfl, fun k => mkT_get h.nd k⟩
theorem mkT_nd {A : List (Int × It)} {next : Int} (h : TbI A next) : Nd (mkT A (keysUp A).length, next) := by
  show ((mkT A (keysUp A).length).map Prod.fst).Nodup
  rw [mkT_keys]; exact (List.mergeSort_perm _ _).nodup_iff.2 h.nd
theorem SI.recs {A : List (Int × It)} {next : Int} (h : TbI A next) : SI (recsA A next) A next := ⟨(play_recs h).2, by rw [(play_recs h).1]; exact mkT_seq h⟩
theorem SI.to {bs : List (List UInt8)} {A : List (Int × It)} {next : Int} (h : SI bs A next) {t : AT} (e : SEq (A, next) t) : SI bs t.1 t.2 := ⟨h.ok, h.eq.trans e⟩
def turnA (A : List (Int × It)) (next : Int) (b : List UInt8) : AT := apS (mkT A (keysUp A).length, next) b
theorem turn_seq {A : List (Int × It)} {next : Int} (h : TbI A next) (b : List UInt8) : SEq (turnA A next b) (apS (A, next) b) ∧ Nd (turnA A next b) := ⟨apS_eq (mkT_nd h) h.nd (mkT_seq h), apS_nd (mkT_nd h)⟩
theorem turn_ok {A : List (Int × It)} {next : Int} (h : TbI A next) {b : List UInt8} (h2 : TbI (apS (A, next) b).1 (apS (A, next) b).2) : TbI (turnA A next b).1 (turnA A next b).2 ∧ SI (recsA (turnA A next b).1 (turnA A next b).2) (apS (A, next) b).1 (apS (A, next) b).2 := by
  obtain ⟨e, hn⟩ := turn_seq h b; have h3 := h2.of (s := turnA A next b) e hn; exact ⟨h3, (SI.recs h3).to e⟩
theorem keys_le {A : List (Int × It)} (hn : (A.map Prod.fst).Nodup) {m : Nat} (hk : ∀ r ∈ A, 1 ≤ r.1 ∧ r.1 ≤ (m : Int)) : A.length ≤ m := by
  have h := up_len (keysUp A) 1 m (keysUp_lt hn) (fun x hx => by
    rw [keysUp_mem] at hx; obtain ⟨r, hr, rfl⟩ := List.mem_map.1 hx
    exact hk r hr)
  rw [keysUp_len] at h; omega
theorem needS_map {A : List (Int × It)} {next : Int} {m : Nat} (h1 : needN (encA [.txt nextS, .num next]).length ≤ 1) (h : ∀ r ∈ A, needN (recB r.2).length ≤ m) (hn : (A.map Prod.fst).Nodup) : needS (recsA A next) ≤ 1 + A.length * m := by
  unfold recsA; rw [needS_cons]
  have key : ∀ (l : List Int), (∀ k ∈ l, k ∈ A.map Prod.fst) → needS (l.map fun k => recB (itA A k)) ≤ l.length * m := by
    intro l
    induction l with
    | nil => intro _; simp [needS]
    | cons k r ih =>
      intro hl; rw [List.map_cons, needS_cons, List.length_cons]; have h2 := ih (fun x hx => hl x (List.mem_cons_of_mem _ hx)); have hk := hl k (List.mem_cons_self ..)
      obtain ⟨it, hit⟩ : ∃ it, pget A k = some it := by
        cases h3 : pget A k with
        | none => exact absurd hk (pget_none.1 h3)
        | some it => exact ⟨it, rfl⟩
      have h4 := h _ (pget_mem hit)
      have h5 : itA A k = it := by unfold itA; rw [hit]; rfl
      rw [h5]; dsimp only at h4; rw [Nat.add_mul]; omega
  have := key (keysUp A) (fun k hk => (keysUp_mem A k).1 hk); rw [keysUp_len] at this; omega
theorem drop_rec {n : Int} (hn : i64ok n) : RecOk (encA [.txt dropS, .num n]) ∧ ∀ s, apS s (encA [.txt dropS, .num n]) = (pdel s.1 n, s.2) := by
  have hd := decA_encA (Nat.le_refl 255) (two_good (t := dropS) (by decide) hn); have hw : wordOf [.txt dropS, .num n] = dropL := wordOf_txt dropL _; refine ⟨⟨?_, Nat.le_trans (encA_le (two_ok (by decide) hn)) (by show 2 * 257 ≤ 1000000; decide)⟩, fun s => ?_⟩
  · unfold apE; rw [hd, Option.getD_some, hw, if_neg (by decide), at_1, if_pos ⟨rfl, rfl⟩, if_pos rfl]
  · unfold apS; rw [hd, Option.getD_some, hw, if_neg (by decide), at_1, if_pos ⟨rfl, rfl⟩, if_pos rfl]
    rfl
theorem put_rec {it : It} (hok : ItOk it) (ho : encOk (itAV it) = true) : apE (recB it) = 0 ∧ ∀ s, apS s (recB it) = (pput s.1 it.id it, nextR s.2 it.id) := by
  have hd := decA_rec it; have hw : wordOf (recAV (encA (itAV it)) (ckCnt (encA (itAV it)).length)) = putL := wordOf_txt putL _; have hp := putOk_rec hok ho; refine ⟨?_, fun s => ?_⟩
  · unfold apE; rw [hd, Option.getD_some, if_pos hw, hp]
    rfl
  · unfold apS; rw [hd, Option.getD_some, if_pos hw, hp]
end Go.Proofs.YtadgbifmiooikaaGreatX
namespace Go.Proofs.YtadgbifmiooikaaGreatX
set_option linter.unusedVariables false
set_option linter.unusedSimpArgs false
open Go Go.RowKit Go.Proofs
def refRow : AV → List Value
  | .num n => [.int .i64 1, .int .i64 n, .string ⟨#[]⟩, .bool false]
  | .txt s => [.int .i64 2, .int .i64 0, .string s, .bool false]
  | .flg t => [.int .i64 3, .int .i64 0, .string ⟨#[]⟩, .bool t]
  | .oth _ => [.int .i64 0, .int .i64 0, .string ⟨#[]⟩, .bool false]
def refKind : AV → Int
  | .num _ => 1
  | .txt _ => 2
  | .flg _ => 3
  | .oth _ => 0
theorem refRow_len (a : AV) : (refRow a).length = 4 := by cases a <;> rfl
theorem refRow_all (a : AV) : (refRow a).all Value.oneCell' = true := by cases a <;> rfl
theorem refRow_0 (a : AV) : (refRow a).toArray[0]? = some (.int .i64 (refKind a)) := by cases a <;> rfl
theorem refKind_1 {a : AV} (h : refKind a = 1) : ∃ n, a = .num n := by cases a <;> first | exact ⟨_, rfl⟩ | (simp [refKind] at h; done)
theorem refKind_2 {a : AV} (h : refKind a = 2) : ∃ n, a = .txt n := by cases a <;> first | exact ⟨_, rfl⟩ | (simp [refKind] at h; done)
theorem refKind_3 {a : AV} (h : refKind a = 3) : ∃ n, a = .flg n := by cases a <;> first | exact ⟨_, rfl⟩ | (simp [refKind] at h; done)
theorem refKind_0 {a : AV} (h1 : refKind a ≠ 1) (h2 : refKind a ≠ 2) (h3 : refKind a ≠ 3) : ∃ v, a = .oth v := by cases a <;> first | exact ⟨_, rfl⟩ | exact absurd rfl h1 | exact absurd rfl h2 | exact absurd rfl h3
abbrev RdV (I : Imm) (v : Value) (av : List AV) : Prop := RdL I 4 v av.length (av.flatMap refRow)
abbrev GrowV (v : Value) (av : List AV) (Lv : Own) : Prop := Grow 161 4 v av.length (av.flatMap refRow) Lv
theorem GrowV.push {v : Value} {av : List AV} {a : AV} {Lv : Own} (h : Grow 161 4 v (av.length + 1) (av.flatMap refRow ++ refRow a) Lv) : GrowV v (av ++ [a]) Lv := by
  unfold GrowV; rw [List.length_append, List.flatMap_append, List.flatMap_cons, List.flatMap_nil, List.append_nil]; exact h
theorem RdV.row {av : List AV} {k : Nat} {a : AV} (ha : av[k]? = some a) : ∀ (j : Nat) (u : Value), (refRow a)[j]? = some u → (av.flatMap refRow)[k * 4 + j]? = some u := by
  intro j u hj
  have h2 : j < 4 := by have := (List.getElem?_eq_some_iff.1 hj).1; rwa [refRow_len] at this
  rw [getElem?_flat refRow_len av k j h2, ha]; exact hj
set_option maxRecDepth 100000 in
set_option maxHeartbeats 1000000 in
theorem refI_spec {w0 w : World} {I : Imm} {L : Own} (hst : St w0 w I L) (n : Int) :
    Calls Tryz.prog 104 #[.int .i64 n] w fun e w' => e = .returned (.agg (refRow (.num n)).toArray) ∧ St w0 w' I L := by
  refine enter Tryz.func104 rfl (N := 5) rfl rfl ?_
  simp only [zA, zB, zC, zD, zE, Nat.reduceAdd]
  have hle := Imm.le.refl I; refine zR ?_; refine RW.opE rfl (runs_alloc ti161 hst) ?_; clear hst; rintro _ w ⟨b1, rfl, hst⟩; refine zN <| zm rfl rfl <| RW.op1 rfl (runs_buildF (cells := [_, _, _, _]) bz161 rfl rfl rfl rfl rfl) ?_; refine zw 0 ti161 rfl rfl hst rfl rfl rfl rfl ?_; clear hst; rintro w hst; (try simp only [sZ, sS] at hst); refine zM <| CW.ret ?_; refine AQ.retS rfl rfl (hst.loadN (vs := [_, _, _, _]) (k := 0) ag161 ti161 rfl rfl rfl) ?_; exact ⟨rfl, hst.drop1⟩
set_option maxRecDepth 100000 in
set_option maxHeartbeats 1000000 in
theorem refS_spec {w0 w : World} {I : Imm} {L : Own} (hst : St w0 w I L) (n : ByteArray) :
    Calls Tryz.prog 105 #[.string n] w fun e w' => e = .returned (.agg (refRow (.txt n)).toArray) ∧ St w0 w' I L := by
  refine enter Tryz.func105 rfl (N := 5) rfl rfl ?_
  simp only [zA, zB, zC, zD, zE, Nat.reduceAdd]
  have hle := Imm.le.refl I; refine zR ?_; refine RW.opE rfl (runs_alloc ti161 hst) ?_; clear hst; rintro _ w ⟨b1, rfl, hst⟩; refine zN <| zm rfl rfl <| RW.op1 rfl (runs_buildF (cells := [_, _, _, _]) bz161 rfl rfl rfl rfl rfl) ?_; refine zw 0 ti161 rfl rfl hst rfl rfl rfl rfl ?_; clear hst; rintro w hst; (try simp only [sZ, sS] at hst); refine zM <| CW.ret ?_; refine AQ.retS rfl rfl (hst.loadN (vs := [_, _, _, _]) (k := 0) ag161 ti161 rfl rfl rfl) ?_; exact ⟨rfl, hst.drop1⟩
set_option maxRecDepth 100000 in
set_option maxHeartbeats 1000000 in
theorem refB_spec {w0 w : World} {I : Imm} {L : Own} (hst : St w0 w I L) (n : Bool) :
    Calls Tryz.prog 106 #[.bool n] w fun e w' => e = .returned (.agg (refRow (.flg n)).toArray) ∧ St w0 w' I L := by
  refine enter Tryz.func106 rfl (N := 5) rfl rfl ?_
  simp only [zA, zB, zC, zD, zE, Nat.reduceAdd]
  have hle := Imm.le.refl I; refine zR ?_; refine RW.opE rfl (runs_alloc ti161 hst) ?_; clear hst; rintro _ w ⟨b1, rfl, hst⟩; refine zN <| zm rfl rfl <| RW.op1 rfl (runs_buildF (cells := [_, _, _, _]) bz161 rfl rfl rfl rfl rfl) ?_; refine zw 0 ti161 rfl rfl hst rfl rfl rfl rfl ?_; clear hst; rintro w hst; (try simp only [sZ, sS] at hst); refine zM <| CW.ret ?_; refine AQ.retS rfl rfl (hst.loadN (vs := [_, _, _, _]) (k := 0) ag161 ti161 rfl rfl rfl) ?_; exact ⟨rfl, hst.drop1⟩
set_option maxRecDepth 100000 in
set_option maxHeartbeats 1000000 in
theorem refenc_spec {w0 w : World} {I : Imm} {L : Own} (hst : St w0 w I L) {v : Value} {av : List AV} {m : Nat} {o : Bool} (hv : RdV I v av) (hgood : ∀ a ∈ av, a.good m o) (hlen : av.length ≤ 100000000) :
    Calls Tryz.prog 107 #[v] w fun r w' => ∃ I' v', Imm.le I I' ∧ r = .returned (.tuple #[v', .bool (encOk av)]) ∧ St w0 w' I' L ∧ RdB I' v' (if encOk av then encA av else []) := by
  refine enter Tryz.func107 rfl (N := 63) rfl rfl ?_
  simp only [zA, zB, zC, zD, zE, Nat.reduceAdd]
  have hle := Imm.le.refl I; refine zR <| zs rfl rfl <| zs rfl rfl <| zN <| zs rfl rfl <| zM <| CW.seq <| zR <| zm rfl rfl <| RW.op1 rfl (RdL.len Tryz.underlying164 rfl hv) ?_; refine zm rfl rfl <| zM <| CW.block ?_; refine CW.loop (Nat × Value × Own × Imm) (fun x w => I.le x.2.2.2 ∧ St w0 w x.2.2.2 (x.2.2.1 ++ L) ∧ GrowB 5 x.2.1 (encA (av.take x.1)) x.2.2.1 ∧ encOk (av.take x.1) = true ∧ x.1 ≤ av.length) (fun x => [(4, x.2.1), (8, v), (9, .int .i64 (av.length : Nat)), (10, .int .i64 (x.1 : Int))]) (fun x => av.length - x.1) ⟨(0, .slice none 0 0, [], I), ⟨Imm.le.refl _, hst, by rw [List.take_zero]; exact GrowB.nil _, rfl, Nat.zero_le _⟩, ⟨rfl, rfl, rfl, rfl, trivial⟩⟩ ?_; rintro ⟨k, vo, Lo, I5⟩ w ⟨hle, hstn, hg, hok, hk0⟩; dsimp only at hle hstn hg hok hk0 ⊢; clear hst; have hst := hstn; clear hstn; refine zR <| RW.op1 rfl (runs_lss rfl rfl) <| zM <| CW.seq ?_; refine CW.cond rfl (fun hc11 => ?_) (fun hc11 => ?_)
  · have hcb11 := hc11; (try simp only [dT, dF] at hc11)
    have hk : k < av.length := by omega
    have hga := hgood _ (List.getElem_mem hk); have hvk := RdL.mono hle hv; have hsz := encA_le hok
    have htk : (av.take k).length ≤ 100000000 := by rw [List.length_take]; omega
    obtain ⟨a, ha⟩ : ∃ a, av[k] = a := ⟨_, rfl⟩; have e1 : av[k] = a := ha
    have hak : av[k]? = some a := by rw [List.getElem?_eq_getElem hk, ha]
    rw [ha] at hga; refine CW.skip <| AQ.next <| CW.seq <| CW.block <| zR ?_; refine RW.op1 rfl (RdL.indexAddr Tryz.underlying164 ti161 (by decide) rfl rfl hvk (by omega)) ?_; refine RW.op1 rfl (RdL.loadRow (row := refRow a) ag161 ti161 rfl hvk hst (refRow_len a) (by intro j u hj; rw [Int.toNat_natCast]; exact RdV.row hak j u hj)) ?_; refine RW.opE rfl (runs_alloc ti161 hst) ?_; clear hst; rintro _ w ⟨b1, rfl, hst⟩; refine RW.opE0 (runs_storeW ti161 rfl rfl hst (k := 0) rfl (refRow_len a) rfl (NoFz.zero _) (refRow_all a)) ?_; clear hst; rintro w hst; (try simp only [sZ, sS] at hst); refine zN <| zp rfl rfl U161 rfl ti3 rfl ?_; refine RW.op1 rfl (runs_load1 sc3 rfl (hst.cell_own (v := .int .i64 (refKind a)) (k := 0) rfl (refRow_0 a))) ?_; refine zM <| CW.block <| zR <| RW.op1 rfl (runs_eqI rfl rfl) <| zs rfl rfl <| zM ?_; refine CW.cond rfl (fun hc16 => ?_) (fun hc16 => ?_)
    · have hcb16 := hc16; (try simp only [dT, dF] at hc16); obtain ⟨n, rfl⟩ := refKind_1 hc16; refine zR <| zm rfl rfl ?_; refine RW.opE rfl (runs_litB (bs := [105]) rfl Tryz.underlying52 ti5 (by decide) rfl rfl rfl hst) ?_; clear hst; rintro u3 w ⟨J3, hJ3, hst, hL19⟩; replace hle := hle.trans hJ3; refine RW.opE rfl (runs_appendB Tryz.underlying52 ti5 rfl rfl (hst.perm List.perm_middle.symm) hg hL19 (by simp only [List.length_append, List.length_cons, List.length_nil]; omega)) ?_; clear hst; rintro u4 w ⟨Lv4, hst, hG20⟩; replace hst := hst.perm List.perm_middle; refine zs rfl rfl <| zN <| zs rfl rfl <| zM <| CW.block ?_; refine CW.loop (Nat × Value × Own × Imm) (fun x w => I.le x.2.2.2 ∧ St w0 w x.2.2.2 ((b1, .cells (refRow (.num n)).toArray 161) :: (x.2.2.1 ++ L)) ∧ GrowB 5 x.2.1 (encA (av.take k) ++ [105] ++ (be8 n).take x.1) x.2.2.1 ∧ x.1 ≤ 8) (fun x => [(6, .pointer (some ⟨b1, 0, none⟩)), (8, v), (9, .int .i64 (av.length : Nat)), (10, .int .i64 (k : Int)), (4, x.2.1), (7, .int .i64 (56 - 8 * (x.1 : Int)))]) (fun x => 8 - x.1) ⟨(0, _, _, _), ⟨hle, hst, by rw [List.take_zero, List.append_nil]; exact hG20, by omega⟩, ⟨rfl, rfl, rfl, rfl, rfl, rfl, trivial⟩⟩ ?_; rintro ⟨j, vi, Li, I6⟩ w ⟨hle, hstn, hg, hj0⟩; dsimp only at hle hstn hg hj0 ⊢; clear hst; have hst := hstn; clear hstn; refine CW.seq <| zR <| zm rfl rfl <| RW.op1 rfl (runs_geq rfl rfl) <| zM ?_; refine CW.cond rfl (fun hc22 => ?_) (fun hc22 => ?_)
      · have hcb22 := hc22; (try simp only [dT, dF] at hc22)
        have hj : j < 8 := by omega
        have hbl : ((be8 n).take j).length ≤ 8 := by rw [List.length_take]; omega
        refine CW.skip <| AQ.next <| CW.seq <| CW.block <| CW.region <| zm rfl rfl <| zp rfl rfl U161 rfl ti3 rfl ?_; refine RW.op1 rfl (runs_load1 sc3 rfl (hst.cell_own (v := .int .i64 n) (k := 0) rfl rfl)) ?_; refine RW.op1 rfl (runs_convI (by rw [Tryz.underlying3]; rfl) Tryz.underlying140 rfl) ?_; refine zm rfl rfl ?_; refine RW.op1 rfl (runs_convI (by rw [Tryz.underlying3]; rfl) Tryz.underlying121 rfl) ?_
        have e30 : IntKind.u64.wrap (56 - 8 * (j : Int)) = ((8 * (7 - j) : Nat) : Int) := by rw [IntKind.wrap_u64]; omega
        rw [e30]; refine RW.op1 rfl (runs_shr (n := 8 * (7 - j)) rfl rfl (by show 8 * (7 - j) ≤ 64; omega)) ?_; refine RW.op1 rfl (runs_convB (by rw [Tryz.underlying140]; rfl) Tryz.underlying5 rfl) ?_; refine RW.opE rfl (runs_litB (bs := [u8 ((IntKind.u64.wrap n).fdiv (2 ^ (8 * (7 - j))))]) rfl Tryz.underlying52 ti5 (by decide) rfl rfl rfl hst) ?_; clear hst; rintro u5 w ⟨J5, hJ5, hst, hL33⟩; replace hle := hle.trans hJ5; refine RW.opE rfl (runs_appendB Tryz.underlying52 ti5 rfl rfl (hst.perm List.perm_middle.symm) hg hL33 (by simp only [List.length_append, List.length_cons, List.length_nil]; omega)) ?_; clear hst; rintro u6 w ⟨Lv6, hst, hG34⟩; replace hst := hst.perm List.perm_middle; refine zs rfl rfl <| RW.done <| AQ.block_normal <| AQ.next <| CW.region <| zm rfl rfl ?_; refine RW.op1 rfl (runs_sub rfl rfl (by omega)) ?_; rw [show 56 - 8 * (j : Int) - 8 = 56 - 8 * ((j + 1 : Nat) : Int) by omega]; refine zs rfl rfl <| RW.done ?_; exact AQ.again (x := (j, vi, Li, I6)) (j + 1, _, _, _) ⟨hle, hst, by rw [be8_take n hj, ← List.append_assoc]; exact hG34, by omega⟩ ⟨rfl, rfl, rfl, rfl, rfl, rfl, trivial⟩ (by dsimp only; omega)
      · have hcb22 := hc22; (try simp only [dT, dF] at hc22); refine CW.exit ?_; refine AQ.past_exit <| AQ.past_exit <| AQ.block_hit <| AQ.block_normal <| AQ.block_normal <| AQ.next <| CW.region ?_; refine RW.op1 rfl (runs_add rfl rfl (by omega)) ?_; refine zm rfl rfl <| RW.done ?_; have hb8 : (be8 n).take j = be8 n := List.take_of_length_le (by rw [be8_length]; omega); rw [hb8] at hg; exact AQ.again (x := (k, vo, Lo, I5)) (k + 1, _, _, _) ⟨hle, hst.drop1, by rw [encA_take hk, e1]; simpa [enc1] using hg, encOk_take hk hok (by rw [e1]; rfl), by omega⟩ ⟨rfl, rfl, rfl, rfl, trivial⟩ (by dsimp only; omega)
    · have hcb16 := hc16; (try simp only [dT, dF] at hc16); refine zR <| RW.op1 rfl (runs_eqI rfl rfl) <| zs rfl rfl <| zM ?_; refine CW.cond rfl (fun hc35 => ?_) (fun hc35 => ?_)
      · have hcb35 := hc35; (try simp only [dT, dF] at hc35); obtain ⟨b, rfl⟩ := refKind_2 hc35; refine CW.seq <| zR <| zp rfl rfl U161 rfl ti9 rfl ?_; refine RW.op1 rfl (runs_load1 sc9 rfl (hst.cell_own (v := .string b) (k := 0) rfl rfl)) ?_; refine RW.op1 rfl (runs_lenS Tryz.underlying9 rfl) <| RW.op1 rfl (runs_gtr rfl rfl) <| zM ?_; refine CW.cond rfl (fun hc40 => ?_) (fun hc40 => ?_)
        · have hcb40 := hc40; (try simp only [dT, dF] at hc40); refine zR <| zs rfl rfl <| zs rfl rfl <| zM <| CW.ret <| AQ.past_ret <| AQ.block_ret <| AQ.block_ret <| AQ.past_ret <| AQ.past_ret ?_; refine AQ.block_ret <| AQ.past_ret ?_; refine AQ.ret2 rfl rfl rfl ?_; rw [encOk_no hk (by rw [e1]; simp [enc1Ok]; omega)]; exact ⟨_, _, hle, rfl, (hst.drop1).sub (List.sublist_append_right _ _), RdL.nil 1⟩
        · have hcb40 := hc40; (try simp only [dT, dF] at hc40); have hbl := size_toList b; refine CW.skip <| AQ.next ?_; refine CW.draw (FSt w0 I5 ((b1, .cells (refRow (.txt b)).toArray 161) :: L)) (.q 0 (.q 1 (.q 2 (.q 3 (.q 4 (.q 7 (.q 8 (.l 5 (.l 6 (.l 9 (.q 10 .nil))))))))))) follows (by kernel_rfl) ⟨_, Imm.le.refl _, hst.draw.sub ((List.sublist_append_right _ _).cons_cons _)⟩ ?_; replace hst := hst.draw; refine ym rfl rfl rfl <| yp rfl rfl rfl U161 rfl ti9 rfl ?_; refine DRW.q rfl rfl (FSt.load1_own (v := .string b) sc9 rfl (k := 0) rfl rfl) ?_; refine DRW.q rfl rfl (fun w' hF => runs_lenS Tryz.underlying9 rfl) ?_; refine DRW.q rfl rfl (fun w' hF => runs_convB (by rw [Tryz.underlying3]; rfl) Tryz.underlying5 rfl) ?_; refine yp rfl rfl rfl U161 rfl ti9 rfl ?_; refine DRW.q rfl rfl (FSt.load1_own (v := .string b) sc9 rfl (k := 0) rfl rfl) ?_; refine DRW.opE rfl rfl (runs_litB (bs := [115, _]) rfl Tryz.underlying52 ti5 (by decide) rfl rfl rfl hst) ?_; clear hst; rintro u7 w ⟨I7, hI7, hst, h7⟩; replace hle := hle.trans hI7; refine ⟨FSt.of hst hI7 (by first | exact ((List.sublist_append_right _ _).cons_cons _) | exact List.sublist_append_right _ _), ?_⟩; refine DRW.opE rfl rfl (runs_appendB Tryz.underlying52 ti5 rfl rfl (hst.perm List.perm_middle.symm) hg (by assumption) (by simp only [List.length_append, List.length_cons, List.length_nil]; omega)) ?_; clear hst; rintro u8 w ⟨Lv8, hst, hG47⟩; refine ⟨FSt.of hst hI7 (by first | exact ((List.sublist_append_right _ _).cons_cons _) | exact List.sublist_append_right _ _), ?_⟩; replace hst := hst.perm List.perm_middle; refine DRW.opE rfl rfl (runs_appendS Tryz.underlying52 ti5 Tryz.underlying9 rfl rfl (hst.perm List.perm_middle.symm) hG47 (by simp only [List.length_append, List.length_cons, List.length_nil]; omega)) ?_; clear hst; rintro u9 w ⟨Lv9, hst, hG50⟩; refine ⟨FSt.of hst hI7 (by first | exact ((List.sublist_append_right _ _).cons_cons _) | exact List.sublist_append_right _ _), ?_⟩; replace hst := hst.perm List.perm_middle; refine ys rfl rfl rfl <| DRW.done <| AQ.block_normal <| AQ.block_normal <| AQ.next <| CW.region ?_; refine RW.op1 rfl (runs_add rfl rfl (by omega)) ?_; refine zm rfl rfl <| RW.done ?_; exact AQ.again (x := (k, vo, Lo, I5)) (k + 1, _, _, _) ⟨hle, hst.drop1, by rw [encA_take hk, e1]; simpa [enc1] using hG50, encOk_take hk hok (by rw [e1]; simp [enc1Ok]; omega), by omega⟩ ⟨rfl, rfl, rfl, rfl, trivial⟩ (by dsimp only; omega)
      · have hcb35 := hc35; (try simp only [dT, dF] at hc35); refine zR <| RW.op1 rfl (runs_eqI rfl rfl) <| zs rfl rfl <| zM ?_; refine CW.cond rfl (fun hc51 => ?_) (fun hc51 => ?_)
        · have hcb51 := hc51; (try simp only [dT, dF] at hc51); obtain ⟨t, rfl⟩ := refKind_3 hc51; refine zR <| zp rfl rfl U161 rfl ti4 rfl ?_; refine RW.op1 rfl (runs_load1 sc4 rfl (hst.cell_own (v := .bool t) (k := 0) rfl rfl)) ?_; refine zM ?_; refine CW.cond rfl (fun hc54 => ?_) (fun hc54 => ?_)
          · have hcb54 := hc54; (try simp only [dT, dF] at hc54); refine CW.region <| zm rfl rfl ?_; refine RW.opE rfl (runs_litB (bs := [116]) rfl Tryz.underlying52 ti5 (by decide) rfl rfl rfl hst) ?_; clear hst; rintro u10 w ⟨J10, hJ10, hst, hL56⟩; replace hle := hle.trans hJ10; refine RW.opE rfl (runs_appendB Tryz.underlying52 ti5 rfl rfl (hst.perm List.perm_middle.symm) hg hL56 (by simp only [List.length_append, List.length_cons, List.length_nil]; omega)) ?_; clear hst; rintro u11 w ⟨Lv11, hst, hG57⟩; replace hst := hst.perm List.perm_middle; refine zs rfl rfl <| RW.done <| AQ.block_normal <| AQ.block_normal <| AQ.next <| CW.region ?_; refine RW.op1 rfl (runs_add rfl rfl (by omega)) ?_; refine zm rfl rfl <| RW.done ?_; subst hcb54; exact AQ.again (x := (k, vo, Lo, I5)) (k + 1, _, _, _) ⟨hle, hst.drop1, by rw [encA_take hk, e1]; simpa [enc1] using hG57, encOk_take hk hok (by rw [e1]; rfl), by omega⟩ ⟨rfl, rfl, rfl, rfl, trivial⟩ (by dsimp only; omega)
          · have hcb54 := hc54; (try simp only [dT, dF] at hc54); refine CW.region <| zm rfl rfl ?_; refine RW.opE rfl (runs_litB (bs := [102]) rfl Tryz.underlying52 ti5 (by decide) rfl rfl rfl hst) ?_; clear hst; rintro u12 w ⟨J12, hJ12, hst, hL59⟩; replace hle := hle.trans hJ12; refine RW.opE rfl (runs_appendB Tryz.underlying52 ti5 rfl rfl (hst.perm List.perm_middle.symm) hg hL59 (by simp only [List.length_append, List.length_cons, List.length_nil]; omega)) ?_; clear hst; rintro u13 w ⟨Lv13, hst, hG60⟩; replace hst := hst.perm List.perm_middle; refine zs rfl rfl <| RW.done <| AQ.block_normal <| AQ.block_normal <| AQ.next <| CW.region ?_; refine RW.op1 rfl (runs_add rfl rfl (by omega)) ?_; refine zm rfl rfl <| RW.done ?_; subst hcb54; exact AQ.again (x := (k, vo, Lo, I5)) (k + 1, _, _, _) ⟨hle, hst.drop1, by rw [encA_take hk, e1]; simpa [enc1] using hG60, encOk_take hk hok (by rw [e1]; rfl), by omega⟩ ⟨rfl, rfl, rfl, rfl, trivial⟩ (by dsimp only; omega)
        · have hcb51 := hc51; (try simp only [dT, dF] at hc51); obtain ⟨u, rfl⟩ := refKind_0 hc16 hc35 hc51; refine zR <| zs rfl rfl <| zs rfl rfl <| zM <| CW.ret <| AQ.block_ret <| AQ.block_ret <| AQ.past_ret <| AQ.past_ret <| AQ.block_ret ?_; refine AQ.past_ret ?_; refine AQ.ret2 rfl rfl rfl ?_; rw [encOk_no hk (by rw [e1]; rfl)]; exact ⟨_, _, hle, rfl, (hst.drop1).sub (List.sublist_append_right _ _), RdL.nil 1⟩
  · have hcb11 := hc11; (try simp only [dT, dF] at hc11); refine CW.exit ?_; refine AQ.past_exit <| AQ.past_exit <| AQ.block_hit <| AQ.next <| zR <| zm rfl rfl <| zs rfl rfl <| zs rfl rfl <| zM <| CW.ret ?_; refine AQ.ret2 rfl rfl rfl ?_; have hkl : av.take k = av := List.take_of_length_le (by omega); rw [hkl] at hok hg; rw [hok]; obtain ⟨I', hI, hst, hr⟩ := GrowB.freeze hg hst; exact ⟨I', _, hle.trans hI, rfl, hst, hr⟩
set_option maxRecDepth 100000 in
set_option maxHeartbeats 4000000 in
theorem rbytes17_spec {w0 w : World} {I : Imm} {L : Own} (hst : St w0 w I L) {it : It} {vh : Value} (hv : RdH I vh it.heads) (hok : ItOk it) (hlen : it.heads.length ≤ 1000) :
    Calls Tryz.prog 65 #[itv it vh] w fun e w' => ∃ I' v', I.le I' ∧ e = .returned (.tuple #[v', .bool (encOk (itAV it))]) ∧ St w0 w' I' L ∧ RdB I' v' (if encOk (itAV it) then encA (itAV it) else []) := by
  obtain ⟨m, hgood⟩ := itAV_good hok
  obtain ⟨A, c, rfl⟩ : ∃ A c, vh = .slice A it.heads.length c := by obtain ⟨_, _, A, c, e, _⟩ := hv; exact ⟨A, c, e⟩
  refine enter Tryz.func65 rfl (N := 124) rfl rfl ?_
  simp only [zA, zB, zC, zD, zE, Nat.reduceAdd]
  have hle := Imm.le.refl I; refine zR ?_; refine RW.opE rfl (runs_box rfl hst) ?_; clear hst; rintro _ w ⟨b1, rfl, hst⟩; refine zs rfl rfl <| zs rfl rfl <| zM <| CW.seq ?_; refine CW.drawSt hst (.q 0 (.q 1 (.q 3 (.q 4 (.q 6 (.q 7 (.q 9 (.q 10 (.q 12 (.q 13 (.q 14 (.q 16 (.q 17 (.q 18 (.q 20 (.q 21 (.q 22 (.q 23 (.l 2 (.l 5 (.l 8 (.l 11 (.l 15 (.l 19 (.l 24 (.l 25 (.q 26 .nil))))))))))))))))))))))))))) follows (by kernel_rfl) (fun w hst => ?_); refine yp rfl rfl rfl U40 rfl ti3 rfl <| yl 0 rfl rfl sc3 rfl rfl rfl <| yp rfl rfl rfl U40 rfl ti3 rfl <| yl 0 rfl rfl sc3 rfl rfl rfl <| yp rfl rfl rfl U40 rfl ti3 rfl <| yl 0 rfl rfl sc3 rfl rfl rfl <| yp rfl rfl rfl U40 rfl ti9 rfl <| yl 0 rfl rfl sc9 rfl rfl rfl <| yp rfl rfl rfl U40 rfl ti36 rfl <| yp rfl rfl rfl U36 rfl ti9 rfl ?_; refine yl 0 rfl rfl sc9 rfl rfl rfl <| yp rfl rfl rfl U40 rfl ti36 rfl <| yp rfl rfl rfl U36 rfl ti9 rfl <| yl 0 rfl rfl sc9 rfl rfl rfl <| yp rfl rfl rfl U40 rfl ti36 rfl <| yp rfl rfl rfl U36 rfl ti34 rfl <| yl 0 rfl rfl sc34 rfl rfl rfl ?_; refine DRW.q rfl rfl (fun w' hF => runs_lenL Tryz.underlying34 rfl) ?_; refine DRW.call rfl rfl call104 rfl rfl (refI_spec hst _) ?_; clear hst; rintro e w ⟨rfl, hst⟩; refine ⟨_, rfl, FSt.ofA hst (Imm.le.refl _), ?_⟩; refine DRW.call rfl rfl call104 rfl rfl (refI_spec hst _) ?_; clear hst; rintro e w ⟨rfl, hst⟩; refine ⟨_, rfl, FSt.ofA hst (Imm.le.refl _), ?_⟩; refine DRW.call rfl rfl call104 rfl rfl (refI_spec hst _) ?_; clear hst; rintro e w ⟨rfl, hst⟩; refine ⟨_, rfl, FSt.ofA hst (Imm.le.refl _), ?_⟩; refine DRW.call rfl rfl call105 rfl rfl (refS_spec hst _) ?_; clear hst; rintro e w ⟨rfl, hst⟩; refine ⟨_, rfl, FSt.ofA hst (Imm.le.refl _), ?_⟩; refine DRW.call rfl rfl call105 rfl rfl (refS_spec hst _) ?_; clear hst; rintro e w ⟨rfl, hst⟩; refine ⟨_, rfl, FSt.ofA hst (Imm.le.refl _), ?_⟩; refine DRW.call rfl rfl call105 rfl rfl (refS_spec hst _) ?_; clear hst; rintro e w ⟨rfl, hst⟩; refine ⟨_, rfl, FSt.ofA hst (Imm.le.refl _), ?_⟩; refine DRW.call rfl rfl call104 rfl rfl (refI_spec hst _) ?_; clear hst; rintro e w ⟨rfl, hst⟩; refine ⟨_, rfl, FSt.ofA hst (Imm.le.refl _), ?_⟩; refine DRW.opE rfl rfl (runs_litF (xs := [.agg #[_, _, _, _], .agg #[_, _, _, _], .agg #[_, _, _, _], .agg #[_, _, _, _], .agg #[_, _, _, _], .agg #[_, _, _, _], .agg #[_, _, _, _]]) Tryz.underlying164 ti161 (by decide) rfl rfl rfl rfl rfl hst (by decide)) ?_; clear hst; rintro u9 w ⟨Lv9, hst, hg9⟩; refine ⟨FSt.ofA hst (Imm.le.refl _), ?_⟩; replace hst := hst.perm (List.perm_middle (l₁ := Lv9)); have hg35 : GrowV u9 (headAV it) Lv9 := hg9; refine ys rfl rfl rfl <| DRW.done <| AQ.next <| CW.seq <| zR <| zp rfl rfl U40 rfl ti36 rfl <| zp rfl rfl U36 rfl ti34 rfl <| zl 0 rfl sc34 rfl hst rfl rfl ?_
  refine RW.op1 rfl (runs_lenL Tryz.underlying34 rfl) <| zm rfl rfl <| zM <| CW.block ?_; refine CW.loop (Nat × Imm × Value × Own) (fun x w => I.le x.2.1 ∧ RdH x.2.1 (.slice A it.heads.length c) it.heads ∧ St w0 w x.2.1 ((b1, Obj.cells #[.int .i64 it.id, .int .i64 it.kind, .int .i64 it.group, .string it.name, .string it.method, .string it.url, .slice A it.heads.length c, .string it.body, .int .i64 it.mode, .int .i64 it.creds, .string it.page, .string it.csp, .int .i64 it.refer, .string it.nurl, .string it.nmethod, .string it.nbody, .int .i64 it.hops, .int .i64 it.tries, .int .i64 it.til, .bool it.tainted, .string it.got, .string it.tag, .int .i64 it.state, .int .i64 it.code, .bool it.acked] 40) :: (x.2.2.2 ++ L)) ∧ GrowV x.2.2.1 (headAV it ++ hAV (it.heads.take x.1)) x.2.2.2 ∧ x.1 ≤ it.heads.length) (fun x => [(1, .pointer (some ⟨b1, 0, none⟩)), (4, x.2.2.1), (35, .slice A it.heads.length c), (36, .int .i64 (it.heads.length : Nat)), (37, .int .i64 (x.1 : Int))]) (fun x => it.heads.length - x.1) ⟨(0, _, _, _), ⟨hle, hv, hst, hg35, Nat.zero_le _⟩, ⟨rfl, rfl, rfl, rfl, rfl, trivial⟩⟩ ?_; clear hle hv hst; rintro ⟨k, J, vo, Lo⟩ w ⟨hle, hv, hst, hg, hk⟩; dsimp only at hle hv hst hg hk ⊢; refine zR <| RW.op1 rfl (runs_lss rfl rfl) <| zM <| CW.seq ?_; refine CW.cond rfl (fun hc38 => ?_) (fun hc38 => ?_)
  · have hcb38 := hc38; (try simp only [dT, dF] at hc38)
    have hk1 : k < it.heads.length := by omega
    obtain ⟨⟨n, d⟩, hr⟩ : ∃ r, it.heads[k] = r := ⟨_, rfl⟩
    have hr2 : it.heads[k]? = some (n, d) := by rw [List.getElem?_eq_getElem hk1, hr]
    have htk : hAV (it.heads.take (k + 1)) = hAV (it.heads.take k) ++ [.txt n, .txt d] := by
      unfold hAV; rw [List.take_add_one, hr2, List.flatMap_append]
      rfl
    have hgl : (headAV it ++ hAV (it.heads.take k)).length = 7 + k * 2 := by rw [List.length_append, hAV_len, List.length_take, Nat.min_eq_left (by omega)]; rfl
    refine CW.skip <| AQ.next <| CW.seq <| CW.block <| zR ?_; refine RW.op1 rfl (RdL.indexAddr Tryz.underlying34 ti54 (by decide) rfl rfl hv (by omega)) ?_; refine RW.op1 rfl (RdL.loadRow (row := hrow (n, d)) ag54 ti54 rfl hv hst rfl (hrow_at hr2)) ?_; refine RW.opE rfl (runs_alloc ti54 hst) ?_; clear hst; rintro _ w ⟨b10, rfl, hst⟩; obtain ⟨bh, hbh⟩ : ∃ b, b = b10 := ⟨_, rfl⟩; subst hbh; refine zw 0 ti54 rfl rfl hst rfl rfl rfl rfl ?_; clear hst; rintro w hst; (try simp only [sZ, sS] at hst); refine zM ?_; refine CW.draw (FSt w0 J ((bh, .cells #[.string n, .string d] 54) :: (b1, Obj.cells #[.int .i64 it.id, .int .i64 it.kind, .int .i64 it.group, .string it.name, .string it.method, .string it.url, .slice A it.heads.length c, .string it.body, .int .i64 it.mode, .int .i64 it.creds, .string it.page, .string it.csp, .int .i64 it.refer, .string it.nurl, .string it.nmethod, .string it.nbody, .int .i64 it.hops, .int .i64 it.tries, .int .i64 it.til, .bool it.tainted, .string it.got, .string it.tag, .int .i64 it.state, .int .i64 it.code, .bool it.acked] 40) :: L)) (.q 0 (.q 1 (.q 2 (.q 4 (.q 5 (.l 3 (.l 6 (.l 7 (.l 8 (.q 9 .nil)))))))))) follows (by kernel_rfl) ⟨_, Imm.le.refl _, hst.draw.sub (((List.sublist_append_right _ _).cons_cons _).cons_cons _)⟩ ?_; replace hst := hst.draw; refine ym rfl rfl rfl <| yp rfl rfl rfl U54 rfl ti9 rfl <| yl 0 rfl rfl sc9 rfl rfl rfl <| yp rfl rfl rfl U54 rfl ti9 rfl <| yl 0 rfl rfl sc9 rfl rfl rfl ?_; refine DRW.call rfl rfl call105 rfl rfl (refS_spec hst _) ?_; clear hst; rintro e w ⟨rfl, hst⟩; refine ⟨_, rfl, FSt.of hst (Imm.le.refl _) (by first | exact (((List.sublist_append_right _ _).cons_cons _).cons_cons _) | exact ((((List.sublist_append_right _ _).cons_cons _).cons_cons _).trans (List.sublist_append_right _ _))), ?_⟩; refine DRW.call rfl rfl call105 rfl rfl (refS_spec hst _) ?_; clear hst; rintro e w ⟨rfl, hst⟩; refine ⟨_, rfl, FSt.of hst (Imm.le.refl _) (by first | exact (((List.sublist_append_right _ _).cons_cons _).cons_cons _) | exact ((((List.sublist_append_right _ _).cons_cons _).cons_cons _).trans (List.sublist_append_right _ _))), ?_⟩; refine DRW.opE rfl rfl (runs_litF (xs := [.agg #[_, _, _, _], .agg #[_, _, _, _]]) Tryz.underlying164 ti161 (by decide) rfl rfl rfl rfl rfl hst (by decide)) ?_; clear hst; rintro u14 w ⟨Lv14, hst, hg14⟩; refine ⟨FSt.of hst (Imm.le.refl _) (by first | exact (((List.sublist_append_right _ _).cons_cons _).cons_cons _) | exact ((((List.sublist_append_right _ _).cons_cons _).cons_cons _).trans (List.sublist_append_right _ _))), ?_⟩; obtain ⟨J14, hJ14, hstn, h14⟩ := Grow.freeze hg14 hst; clear hst; have hst := hstn; clear hstn; replace hv := hv.mono hJ14; replace hle := hle.trans hJ14; (try simp only [List.nil_append] at h14); replace h14 : RdL J14 4 u14 2 ([AV.txt n, AV.txt d].flatMap refRow) := h14; have hT := h14; refine DRW.opE rfl rfl (runs_appendRA [_, _] Tryz.underlying164 ti161 rfl (by decide) rfl rfl hst hg hT (by omega) (by unfold maxLen; omega)) ?_; clear hst; rintro uN w ⟨LvN, hst, hgN⟩; refine ⟨FSt.of hst hJ14 (by first | exact (((List.sublist_append_right _ _).cons_cons _).cons_cons _) | exact ((((List.sublist_append_right _ _).cons_cons _).cons_cons _).trans (List.sublist_append_right _ _))), ?_⟩; refine ys rfl rfl rfl <| DRW.done <| AQ.block_normal <| AQ.next <| CW.region ?_; refine RW.op1 rfl (runs_add rfl rfl (by omega)) ?_; refine zm rfl rfl <| RW.done ?_
    exact AQ.again (x := (k, J, vo, Lo)) (k + 1, _, uN, LvN) ⟨hle, hv, hst.drop1, by
      dsimp only; unfold GrowV; rw [htk, ← List.append_assoc, List.length_append, List.flatMap_append]
      exact hgN, by dsimp only; omega⟩ ⟨rfl, rfl, rfl, rfl, rfl, trivial⟩ (by dsimp only; omega)
  · have hcb38 := hc38; (try simp only [dT, dF] at hc38); refine CW.exit ?_; refine AQ.past_exit <| AQ.past_exit <| AQ.block_hit <| AQ.next <| CW.seq ?_; have hke : it.heads.take k = it.heads := List.take_of_length_le (by omega); rw [hke] at hg
    have hgl : (headAV it ++ hAV it.heads).length = 7 + it.heads.length * 2 := by rw [List.length_append, hAV_len]; rfl
    refine CW.draw (FSt w0 _ ((b1, Obj.cells #[.int .i64 it.id, .int .i64 it.kind, .int .i64 it.group, .string it.name, .string it.method, .string it.url, .slice A it.heads.length c, .string it.body, .int .i64 it.mode, .int .i64 it.creds, .string it.page, .string it.csp, .int .i64 it.refer, .string it.nurl, .string it.nmethod, .string it.nbody, .int .i64 it.hops, .int .i64 it.tries, .int .i64 it.til, .bool it.tainted, .string it.got, .string it.tag, .int .i64 it.state, .int .i64 it.code, .bool it.acked] 40) :: L)) (.q 0 (.q 1 (.q 2 (.q 3 (.q 5 (.q 6 (.q 7 (.q 9 (.q 10 (.q 11 (.q 13 (.q 14 (.q 15 (.q 17 (.q 18 (.q 19 (.q 21 (.q 22 (.q 23 (.l 4 (.l 8 (.l 12 (.l 16 (.l 20 (.l 24 (.l 25 (.l 26 (.q 27 .nil)))))))))))))))))))))))))))) follows (by kernel_rfl) ⟨_, Imm.le.refl _, hst.draw.sub ((List.sublist_append_right _ _).cons_cons _)⟩ ?_; replace hst := hst.draw; refine ym rfl rfl rfl <| yp rfl rfl rfl U40 rfl ti36 rfl <| yp rfl rfl rfl U36 rfl ti9 rfl <| yl 0 rfl rfl sc9 rfl rfl rfl <| yp rfl rfl rfl U40 rfl ti36 rfl <| yp rfl rfl rfl U36 rfl ti3 rfl <| yl 0 rfl rfl sc3 rfl rfl rfl <| yp rfl rfl rfl U40 rfl ti36 rfl <| yp rfl rfl rfl U36 rfl ti3 rfl <| yl 0 rfl rfl sc3 rfl rfl rfl ?_; refine yp rfl rfl rfl U40 rfl ti38 rfl <| yp rfl rfl rfl U38 rfl ti9 rfl <| yl 0 rfl rfl sc9 rfl rfl rfl <| yp rfl rfl rfl U40 rfl ti38 rfl <| yp rfl rfl rfl U38 rfl ti9 rfl <| yl 0 rfl rfl sc9 rfl rfl rfl <| yp rfl rfl rfl U40 rfl ti38 rfl <| yp rfl rfl rfl U38 rfl ti3 rfl <| yl 0 rfl rfl sc3 rfl rfl rfl ?_; refine DRW.call rfl rfl call105 rfl rfl (refS_spec hst _) ?_; clear hst; rintro e w ⟨rfl, hst⟩; refine ⟨_, rfl, FSt.of hst (Imm.le.refl _) (by first | exact ((List.sublist_append_right _ _).cons_cons _) | exact (((List.sublist_append_right _ _).cons_cons _).trans (List.sublist_append_right _ _))), ?_⟩; refine DRW.call rfl rfl call104 rfl rfl (refI_spec hst _) ?_; clear hst; rintro e w ⟨rfl, hst⟩; refine ⟨_, rfl, FSt.of hst (Imm.le.refl _) (by first | exact ((List.sublist_append_right _ _).cons_cons _) | exact (((List.sublist_append_right _ _).cons_cons _).trans (List.sublist_append_right _ _))), ?_⟩; refine DRW.call rfl rfl call104 rfl rfl (refI_spec hst _) ?_; clear hst; rintro e w ⟨rfl, hst⟩; refine ⟨_, rfl, FSt.of hst (Imm.le.refl _) (by first | exact ((List.sublist_append_right _ _).cons_cons _) | exact (((List.sublist_append_right _ _).cons_cons _).trans (List.sublist_append_right _ _))), ?_⟩; refine DRW.call rfl rfl call105 rfl rfl (refS_spec hst _) ?_; clear hst; rintro e w ⟨rfl, hst⟩; refine ⟨_, rfl, FSt.of hst (Imm.le.refl _) (by first | exact ((List.sublist_append_right _ _).cons_cons _) | exact (((List.sublist_append_right _ _).cons_cons _).trans (List.sublist_append_right _ _))), ?_⟩; refine DRW.call rfl rfl call105 rfl rfl (refS_spec hst _) ?_; clear hst; rintro e w ⟨rfl, hst⟩
    refine ⟨_, rfl, FSt.of hst (Imm.le.refl _) (by first | exact ((List.sublist_append_right _ _).cons_cons _) | exact (((List.sublist_append_right _ _).cons_cons _).trans (List.sublist_append_right _ _))), ?_⟩; refine DRW.call rfl rfl call104 rfl rfl (refI_spec hst _) ?_; clear hst; rintro e w ⟨rfl, hst⟩; refine ⟨_, rfl, FSt.of hst (Imm.le.refl _) (by first | exact ((List.sublist_append_right _ _).cons_cons _) | exact (((List.sublist_append_right _ _).cons_cons _).trans (List.sublist_append_right _ _))), ?_⟩; refine DRW.opE rfl rfl (runs_litF (xs := [.agg #[_, _, _, _], .agg #[_, _, _, _], .agg #[_, _, _, _], .agg #[_, _, _, _], .agg #[_, _, _, _], .agg #[_, _, _, _]]) Tryz.underlying164 ti161 (by decide) rfl rfl rfl rfl rfl hst (by decide)) ?_; clear hst; rintro u22 w ⟨Lv22, hst, hg22⟩; refine ⟨FSt.of hst (Imm.le.refl _) (by first | exact ((List.sublist_append_right _ _).cons_cons _) | exact (((List.sublist_append_right _ _).cons_cons _).trans (List.sublist_append_right _ _))), ?_⟩; obtain ⟨J22, hJ22, hstn, h22⟩ := Grow.freeze hg22 hst; clear hst; have hst := hstn; clear hstn; replace hv := hv.mono hJ22; replace hle := hle.trans hJ22; (try simp only [List.nil_append] at h22); replace h22 : RdL J22 4 u22 6 (([AV.txt it.body, .num it.mode, .num it.creds, .txt it.page, .txt it.csp, .num it.refer]).flatMap refRow) := h22; have hT76 := h22; refine DRW.opE rfl rfl (runs_appendRA [_] Tryz.underlying164 ti161 rfl (by decide) rfl rfl hst hg hT76 (by have := hgl; omega) (by have := hgl; unfold maxLen; omega)) ?_; clear hst; rintro uN77 w ⟨LvN77, hst, hgN77⟩; refine ⟨FSt.of hst hJ22 (by first | exact ((List.sublist_append_right _ _).cons_cons _) | exact (((List.sublist_append_right _ _).cons_cons _).trans (List.sublist_append_right _ _))), ?_⟩; refine ys rfl rfl rfl <| DRW.done <| AQ.next <| CW.seq ?_; refine CW.draw (FSt w0 _ ((b1, Obj.cells #[.int .i64 it.id, .int .i64 it.kind, .int .i64 it.group, .string it.name, .string it.method, .string it.url, .slice A it.heads.length c, .string it.body, .int .i64 it.mode, .int .i64 it.creds, .string it.page, .string it.csp, .int .i64 it.refer, .string it.nurl, .string it.nmethod, .string it.nbody, .int .i64 it.hops, .int .i64 it.tries, .int .i64 it.til, .bool it.tainted, .string it.got, .string it.tag, .int .i64 it.state, .int .i64 it.code, .bool it.acked] 40) :: L)) (.q 0 (.q 1 (.q 2 (.q 4 (.q 5 (.q 7 (.q 8 (.q 10 (.q 11 (.q 13 (.q 14 (.q 16 (.q 17 (.q 19 (.q 20 (.l 3 (.l 6 (.l 9 (.l 12 (.l 15 (.l 18 (.l 21 (.l 22 (.l 23 (.q 24 .nil))))))))))))))))))))))))) follows (by kernel_rfl) ⟨_, Imm.le.refl _, hst.draw.sub ((List.sublist_append_right _ _).cons_cons _)⟩ ?_; replace hst := hst.draw; refine ym rfl rfl rfl <| yp rfl rfl rfl U40 rfl ti9 rfl <| yl 0 rfl rfl sc9 rfl rfl rfl <| yp rfl rfl rfl U40 rfl ti9 rfl <| yl 0 rfl rfl sc9 rfl rfl rfl <| yp rfl rfl rfl U40 rfl ti9 rfl <| yl 0 rfl rfl sc9 rfl rfl rfl <| yp rfl rfl rfl U40 rfl ti3 rfl <| yl 0 rfl rfl sc3 rfl rfl rfl <| yp rfl rfl rfl U40 rfl ti3 rfl ?_; refine yl 0 rfl rfl sc3 rfl rfl rfl <| yp rfl rfl rfl U40 rfl ti3 rfl <| yl 0 rfl rfl sc3 rfl rfl rfl <| yp rfl rfl rfl U40 rfl ti4 rfl <| yl 0 rfl rfl sc4 rfl rfl rfl ?_
    refine DRW.call rfl rfl call105 rfl rfl (refS_spec hst _) ?_; clear hst; rintro e w ⟨rfl, hst⟩; refine ⟨_, rfl, FSt.of hst (Imm.le.refl _) (by first | exact ((List.sublist_append_right _ _).cons_cons _) | exact (((List.sublist_append_right _ _).cons_cons _).trans (List.sublist_append_right _ _))), ?_⟩; refine DRW.call rfl rfl call105 rfl rfl (refS_spec hst _) ?_; clear hst; rintro e w ⟨rfl, hst⟩; refine ⟨_, rfl, FSt.of hst (Imm.le.refl _) (by first | exact ((List.sublist_append_right _ _).cons_cons _) | exact (((List.sublist_append_right _ _).cons_cons _).trans (List.sublist_append_right _ _))), ?_⟩; refine DRW.call rfl rfl call105 rfl rfl (refS_spec hst _) ?_; clear hst; rintro e w ⟨rfl, hst⟩; refine ⟨_, rfl, FSt.of hst (Imm.le.refl _) (by first | exact ((List.sublist_append_right _ _).cons_cons _) | exact (((List.sublist_append_right _ _).cons_cons _).trans (List.sublist_append_right _ _))), ?_⟩; refine DRW.call rfl rfl call104 rfl rfl (refI_spec hst _) ?_; clear hst; rintro e w ⟨rfl, hst⟩; refine ⟨_, rfl, FSt.of hst (Imm.le.refl _) (by first | exact ((List.sublist_append_right _ _).cons_cons _) | exact (((List.sublist_append_right _ _).cons_cons _).trans (List.sublist_append_right _ _))), ?_⟩; refine DRW.call rfl rfl call104 rfl rfl (refI_spec hst _) ?_; clear hst; rintro e w ⟨rfl, hst⟩; refine ⟨_, rfl, FSt.of hst (Imm.le.refl _) (by first | exact ((List.sublist_append_right _ _).cons_cons _) | exact (((List.sublist_append_right _ _).cons_cons _).trans (List.sublist_append_right _ _))), ?_⟩; refine DRW.call rfl rfl call104 rfl rfl (refI_spec hst _) ?_; clear hst; rintro e w ⟨rfl, hst⟩; refine ⟨_, rfl, FSt.of hst (Imm.le.refl _) (by first | exact ((List.sublist_append_right _ _).cons_cons _) | exact (((List.sublist_append_right _ _).cons_cons _).trans (List.sublist_append_right _ _))), ?_⟩; refine DRW.call rfl rfl call106 rfl rfl (refB_spec hst _) ?_; clear hst; rintro e w ⟨rfl, hst⟩; refine ⟨_, rfl, FSt.of hst (Imm.le.refl _) (by first | exact ((List.sublist_append_right _ _).cons_cons _) | exact (((List.sublist_append_right _ _).cons_cons _).trans (List.sublist_append_right _ _))), ?_⟩; refine DRW.opE rfl rfl (runs_litF (xs := [.agg #[_, _, _, _], .agg #[_, _, _, _], .agg #[_, _, _, _], .agg #[_, _, _, _], .agg #[_, _, _, _], .agg #[_, _, _, _], .agg #[_, _, _, _]]) Tryz.underlying164 ti161 (by decide) rfl rfl rfl rfl rfl hst (by decide)) ?_; clear hst; rintro u31 w ⟨Lv31, hst, hg31⟩; refine ⟨FSt.of hst (Imm.le.refl _) (by first | exact ((List.sublist_append_right _ _).cons_cons _) | exact (((List.sublist_append_right _ _).cons_cons _).trans (List.sublist_append_right _ _))), ?_⟩; obtain ⟨J31, hJ31, hstn, h31⟩ := Grow.freeze hg31 hst; clear hst; have hst := hstn; clear hstn; replace hv := hv.mono hJ31; replace h22 := h22.mono hJ31; replace hT76 := hT76.mono hJ31; replace hle := hle.trans hJ31; (try simp only [List.nil_append] at h31); replace h31 : RdL J31 4 u31 7 (([AV.txt it.nurl, .txt it.nmethod, .txt it.nbody, .num it.hops, .num it.tries, .num it.til, .flg it.tainted]).flatMap refRow) := h31; have hT100 := h31; refine DRW.opE rfl rfl (runs_appendRA [_] Tryz.underlying164 ti161 rfl (by decide) rfl rfl hst hgN77 hT100 (by have := hgl; omega) (by have := hgl; unfold maxLen; omega)) ?_; clear hst; rintro uN101 w ⟨LvN101, hst, hgN101⟩; refine ⟨FSt.of hst hJ31 (by first | exact ((List.sublist_append_right _ _).cons_cons _) | exact (((List.sublist_append_right _ _).cons_cons _).trans (List.sublist_append_right _ _))), ?_⟩; refine ys rfl rfl rfl <| DRW.done <| AQ.next <| CW.seq ?_
    refine CW.draw (FSt w0 _ ((b1, Obj.cells #[.int .i64 it.id, .int .i64 it.kind, .int .i64 it.group, .string it.name, .string it.method, .string it.url, .slice A it.heads.length c, .string it.body, .int .i64 it.mode, .int .i64 it.creds, .string it.page, .string it.csp, .int .i64 it.refer, .string it.nurl, .string it.nmethod, .string it.nbody, .int .i64 it.hops, .int .i64 it.tries, .int .i64 it.til, .bool it.tainted, .string it.got, .string it.tag, .int .i64 it.state, .int .i64 it.code, .bool it.acked] 40) :: L)) (.q 0 (.q 1 (.q 2 (.q 4 (.q 5 (.q 7 (.q 8 (.q 10 (.q 11 (.q 13 (.q 14 (.l 3 (.l 6 (.l 9 (.l 12 (.l 15 (.l 16 (.l 17 (.q 18 .nil))))))))))))))))))) follows (by kernel_rfl) ⟨_, Imm.le.refl _, hst.draw.sub ((List.sublist_append_right _ _).cons_cons _)⟩ ?_; replace hst := hst.draw; refine ym rfl rfl rfl <| yp rfl rfl rfl U40 rfl ti9 rfl <| yl 0 rfl rfl sc9 rfl rfl rfl <| yp rfl rfl rfl U40 rfl ti9 rfl <| yl 0 rfl rfl sc9 rfl rfl rfl <| yp rfl rfl rfl U40 rfl ti3 rfl <| yl 0 rfl rfl sc3 rfl rfl rfl <| yp rfl rfl rfl U40 rfl ti3 rfl <| yl 0 rfl rfl sc3 rfl rfl rfl <| yp rfl rfl rfl U40 rfl ti4 rfl ?_; refine yl 0 rfl rfl sc4 rfl rfl rfl ?_; refine DRW.call rfl rfl call105 rfl rfl (refS_spec hst _) ?_; clear hst; rintro e w ⟨rfl, hst⟩; refine ⟨_, rfl, FSt.of hst (Imm.le.refl _) (by first | exact ((List.sublist_append_right _ _).cons_cons _) | exact (((List.sublist_append_right _ _).cons_cons _).trans (List.sublist_append_right _ _))), ?_⟩; refine DRW.call rfl rfl call105 rfl rfl (refS_spec hst _) ?_; clear hst; rintro e w ⟨rfl, hst⟩; refine ⟨_, rfl, FSt.of hst (Imm.le.refl _) (by first | exact ((List.sublist_append_right _ _).cons_cons _) | exact (((List.sublist_append_right _ _).cons_cons _).trans (List.sublist_append_right _ _))), ?_⟩; refine DRW.call rfl rfl call104 rfl rfl (refI_spec hst _) ?_; clear hst; rintro e w ⟨rfl, hst⟩; refine ⟨_, rfl, FSt.of hst (Imm.le.refl _) (by first | exact ((List.sublist_append_right _ _).cons_cons _) | exact (((List.sublist_append_right _ _).cons_cons _).trans (List.sublist_append_right _ _))), ?_⟩; refine DRW.call rfl rfl call104 rfl rfl (refI_spec hst _) ?_; clear hst; rintro e w ⟨rfl, hst⟩; refine ⟨_, rfl, FSt.of hst (Imm.le.refl _) (by first | exact ((List.sublist_append_right _ _).cons_cons _) | exact (((List.sublist_append_right _ _).cons_cons _).trans (List.sublist_append_right _ _))), ?_⟩; refine DRW.call rfl rfl call106 rfl rfl (refB_spec hst _) ?_; clear hst; rintro e w ⟨rfl, hst⟩; refine ⟨_, rfl, FSt.of hst (Imm.le.refl _) (by first | exact ((List.sublist_append_right _ _).cons_cons _) | exact (((List.sublist_append_right _ _).cons_cons _).trans (List.sublist_append_right _ _))), ?_⟩; refine DRW.opE rfl rfl (runs_litF (xs := [.agg #[_, _, _, _], .agg #[_, _, _, _], .agg #[_, _, _, _], .agg #[_, _, _, _], .agg #[_, _, _, _]]) Tryz.underlying164 ti161 (by decide) rfl rfl rfl rfl rfl hst (by decide)) ?_; clear hst; rintro u38 w ⟨Lv38, hst, hg38⟩; refine ⟨FSt.of hst (Imm.le.refl _) (by first | exact ((List.sublist_append_right _ _).cons_cons _) | exact (((List.sublist_append_right _ _).cons_cons _).trans (List.sublist_append_right _ _))), ?_⟩; obtain ⟨J38, hJ38, hstn, h38⟩ := Grow.freeze hg38 hst; clear hst; have hst := hstn; clear hstn; replace hv := hv.mono hJ38; replace h22 := h22.mono hJ38; replace hT76 := hT76.mono hJ38; replace h31 := h31.mono hJ38; replace hT100 := hT100.mono hJ38; replace hle := hle.trans hJ38; (try simp only [List.nil_append] at h38)
    replace h38 : RdL J38 4 u38 5 (([AV.txt it.got, .txt it.tag, .num it.state, .num it.code, .flg it.acked]).flatMap refRow) := h38; have hT118 := h38; refine DRW.opE rfl rfl (runs_appendRA [_] Tryz.underlying164 ti161 rfl (by decide) rfl rfl hst hgN101 hT118 (by have := hgl; omega) (by have := hgl; unfold maxLen; omega)) ?_; clear hst; rintro uN119 w ⟨LvN119, hst, hgN119⟩; refine ⟨FSt.of hst hJ38 (by first | exact ((List.sublist_append_right _ _).cons_cons _) | exact (((List.sublist_append_right _ _).cons_cons _).trans (List.sublist_append_right _ _))), ?_⟩; refine ys rfl rfl rfl <| DRW.done <| AQ.next <| zR ?_; obtain ⟨J9, hJ9, hstn, hall⟩ := hgN119.freeze (hst.perm (List.perm_middle (l₁ := LvN119)).symm); clear hst; have hst := hstn; clear hstn; replace hle := hle.trans hJ9; replace hv := hv.mono hJ9
    have hall2 : RdV J9 uN119 (itAV it) := by
      have e : itAV it = headAV it ++ hAV it.heads ++ [AV.txt it.body, .num it.mode, .num it.creds, .txt it.page, .txt it.csp, .num it.refer] ++ [AV.txt it.nurl, .txt it.nmethod, .txt it.nbody, .num it.hops, .num it.tries, .num it.til, .flg it.tainted] ++ [AV.txt it.got, .txt it.tag, .num it.state, .num it.code, .flg it.acked] := by unfold itAV tailAV; simp
      unfold RdV; rw [e]; rw [List.length_append, List.length_append, List.length_append, List.flatMap_append, List.flatMap_append, List.flatMap_append]; exact hall
    refine zm rfl rfl ?_; refine RW.call rfl call107 rfl rfl (refenc_spec hst hall2 hgood (by rw [itAV_len]; omega)) ?_; clear hst; rintro e w ⟨J121, v121, hJ121, rfl, hst, hv121⟩; replace hv := hv.mono hJ121; replace hle := hle.trans hJ121; refine ⟨_, rfl, ?_⟩; refine zx rfl rfl rfl <| zx rfl rfl rfl <| zs rfl rfl <| zs rfl rfl <| zM <| CW.ret ?_; refine AQ.ret2 rfl rfl rfl ?_; exact ⟨_, v121, hle, rfl, hst.drop1, hv121⟩
end Go.Proofs.YtadgbifmiooikaaGreatX
