/- Parts of a proof, joined: walks through the program's functions and their laws, in the order in which they need each other. -/
import Derived.Test.YtadgbifmiooikaaPLi
import Derived.Test.YtadgbifmiooikaaPLb
import Derived.Test.YtadgbifmiooikaaPLf
import Derived.Test.YtadgbifmiooikaaPLe
import Derived.Test.YtadgbifmiooikaaPLh
namespace Go.Proofs.YtadgbifmiooikaaX
set_option linter.unusedVariables false
set_option linter.unusedSimpArgs false
open Go Go.RowKit
theorem may_cases {G : LG} {room : Int} {bss : List (List UInt8)} (hb : G.bad = 0) (hn : ∀ b ∈ bss, needN b.length ≤ 255) (hx : G.nx + (bss.length : Nat) ≤ 16777216) : (mayL G room bss = 5 ∧ room < (needS bss : Nat)) ∨ (mayL G room bss = 0 ∧ (needS bss : Nat) ≤ room) := by
  unfold mayL; rw [if_neg (by rw [hb]; decide)]
  by_cases h : room < (needS bss : Nat)
  · rw [if_pos (.inl h)]; exact .inl ⟨rfl, h⟩
  · rw [if_neg (by omega), if_neg]
    · exact .inr ⟨rfl, by omega⟩
    · rw [List.any_eq_true]; rintro ⟨b, h1, h2⟩; have := hn b h1
      simp only [decide_eq_true_eq] at h2
      omega
theorem needS_one (b : List UInt8) : needS [b] = needN b.length := by simp [needS]
theorem LI.dn {S : DS} {G : LG} {bs : List (List UInt8)} (h : LI S G bs) : S.down = false ∧ S.pend = [] ∧ G.bad = 0 ∧ S.secs.length = 514 ∧ SlotOk G.s := ⟨h.on, h.pn, h.ok, h.di.len, h.di.so⟩
theorem torn_pend {at_ : Int} {f : Nat → List UInt8} {k : Nat} {old : Int → List UInt8} (hf : ∀ j, j < k → (f j).length = 32) (x : Int × List UInt8) (hx : x ∈ putP at_ f k) (c : List UInt8) (m : Nat) (hm : m = 0 ∨ m = 16 ∨ m = 32)
    (hc : c = old x.1 ∨ ∃ j : Nat, j < k ∧ x.1 = at_ + (j : Int) ∧ (c = f j ∨ c = mixB (f j) (old x.1))) (hl : (old x.1).length = 32) : x.2.take m ++ c.drop m = old x.1 ∨ ∃ j : Nat, j < k ∧ x.1 = at_ + (j : Int) ∧ (x.2.take m ++ c.drop m = f j ∨ x.2.take m ++ c.drop m = mixB (f j) (old x.1)) := by
  obtain ⟨j, hj, rfl⟩ := putP_mem hx; dsimp only at hc hl ⊢
  have hcl : c.length = 32 := by
    rcases hc with rfl | ⟨i, hi, he, rfl | rfl⟩
    · exact hl
    · exact hf i hi
    · unfold mixB; rw [List.length_append, List.length_take, List.length_drop, hf i hi, hl]
      rfl
  rcases hm with rfl | rfl | rfl
  · simpa using hc
  · refine .inr ⟨j, hj, rfl, ?_⟩
    rcases hc with rfl | ⟨i, hi, he, rfl | rfl⟩
    · exact .inr rfl
    · obtain rfl : i = j := by omega
      exact .inl (List.take_append_drop 16 _)
    · obtain rfl : i = j := by omega
      refine .inr ?_; unfold mixB; rw [List.drop_append, List.drop_eq_nil_of_le (by rw [List.length_take]; omega), List.length_take, hf i hi]
      simp
  · refine .inr ⟨j, hj, rfl, .inl ?_⟩; rw [List.take_of_length_le (by rw [hf j hj]; exact Nat.le_refl _), List.drop_eq_nil_of_le (by omega), List.append_nil]
theorem append_li {S S' : DS} {G G' : LG} {bs : List (List UInt8)} {b : List UInt8} {er : Int} (h : LI S G bs) (hb : needN b.length ≤ 255) (hx : G.nx < 16777215) (hok : DOk S') (ha : ApR S G b S' G' er) :
    (er = 5 ∧ S' = S ∧ G' = G ∧ roomR G < (needN b.length : Nat)) ∨
    (er = 0 ∧ (needN b.length : Nat) ≤ roomR G ∧ LI S' G' (bs ++ [b]) ∧ G' = G.to (G.at_ + (needN b.length : Nat)) (G.nx + 1) ∧ (S.left = -1 → S'.left = -1)) ∨
    (er = 8 ∧ S.left ≠ -1 ∧ S'.down = true ∧ G' = G.ill 8 ∧ ∀ ks, DI (crashR S' ks).secs G.s bs G.at_ G.nx) := by
  obtain ⟨hd, hp, hbad, hl, hso⟩ := h.dn; have hrg := h.di.rng; have hso' := hso; unfold SlotOk at hso'; have hroom : roomR G = beginR G.s.h + 256 - G.at_ := rfl; have hmc := may_cases (G := G) (room := roomR G) (bss := [b]) hbad (fun c hc => by rw [List.mem_singleton] at hc; subst hc; exact hb) (by simp; omega); rw [needS_one] at hmc
  have hm : mayM G.s.e G.nx = true := by unfold mayM; simp only [Bool.and_eq_true, decide_eq_true_eq]; omega
  have hneed := need_room b.length
  cases ha with
  | may h' =>
    rcases hmc with ⟨h1, h2⟩ | ⟨h1, _⟩
    · exact .inl ⟨h1, rfl, rfl, h2⟩
    · exact absurd h1 h'
  | bad h' hw hne =>
    rename_i wa
    rcases hmc with ⟨h1, _⟩ | ⟨_, h2⟩
    · rw [h'] at h1; cases h1
    cases hw with
    | bad hfw _ =>
      have hfw := hfw.out; rw [if_neg (by rw [hm]; simp; omega), if_neg (by omega)] at hfw
      rcases put_endsL hd (by omega) (by omega) (fun k hk => secB_len hm hb hk) hfw with ⟨_, _, _, _, h⟩ | ⟨k, l, hk, rfl, hl0, rfl⟩
      · exact absurd h hne
      refine .inr (.inr ⟨rfl, hl0, rfl, rfl, fun ks => ?_⟩); rw [hp, List.nil_append] at hok ⊢; obtain ⟨c1, c2⟩ := crash_ok hok ks
      have hf : ∀ j, j < k → (secB G.s.e G.nx b j).length = 32 := fun j hj => secB_len hm hb (by omega)
      have hP := fun (q : Int) (h0 : 0 ≤ q) (h1 : q < 514) => crash_P (S := { S with pend := putP G.at_ (secB G.s.e G.nx b) k, left := l, down := true }) (fun q c => c = secAt S.secs q ∨ ∃ j : Nat, j < k ∧ q = G.at_ + (j : Int) ∧ (c = secB G.s.e G.nx b j ∨ c = mixB (secB G.s.e G.nx b j) (secAt S.secs q))) ks
        (fun x hx => by obtain ⟨j, _, rfl⟩ := putP_mem hx; dsimp only; omega) (fun q _ _ => .inl rfl)
        (fun x hx c m hm' hlt hc => torn_pend (old := secAt S.secs) hf x hx c m hm' hc (secAt_len h.di.all (by obtain ⟨j, _, rfl⟩ := putP_mem hx; dsimp only; omega) hlt)) h0 (by show q < (S.secs.length : Int); omega)
      generalize hY : (crashR { S with pend := putP G.at_ (secB G.s.e G.nx b) k, left := l, down := true } ks).secs = Y at c1 c2 hP ⊢
      replace c1 : Y.length = 514 := by rw [c1]; exact hl
      have hold : ∀ q : Int, 0 ≤ q → q < 514 → q < G.at_ → secAt Y q = secAt S.secs q := fun q h0 h1 h2 => by
        rcases hP q h0 h1 with h | ⟨j, _, h, _⟩
        · exact h
        · omega
      refine ⟨c1, c2, hso, h.di.n1, h.di.be, by rw [hold _ (by omega) (by omega) (by omega)]; exact h.di.sl, by rw [hold _ (by omega) (by omega) (by omega)]; exact h.di.ot, fun p hp2 hp3 => ?_, ?_⟩
      · have h0 := h.di.mx p hp2 hp3
        rcases hP p (by omega) hp3 with h | ⟨j, hj, rfl, h | h⟩
        · rw [h]; exact h0
        · have hs := seal_part hm hb (k := j) (by omega); have h3 : epochOf (secB G.s.e G.nx b j) = G.s.e := (seal_hd hs).1; have h4 : tlE (secB G.s.e G.nx b j) = G.s.e := (seal_tl hs).1; rw [h, h3, h4]; exact ⟨Int.le_refl _, Int.le_refl _⟩
        · have hs := seal_part hm hb (k := j) (by omega); have h3 : epochOf (secB G.s.e G.nx b j) = G.s.e := (seal_hd hs).1; rw [h, (mix_hd (hf j hj)).1, (mix_tl (hf j hj)).1, h3]; exact ⟨Int.le_refl _, h0.2⟩
      · have hlen : (flat Y).secs.length = (flat S.secs).secs.length := by show Y.length = S.secs.length; omega
        obtain ⟨least', e1, e2, e3, e4⟩ := recs_ext (S' := flat Y) hlen rfl (Int.le_refl _) h.di.rc (fun x hx hx2 => by
          rw [readR_nil rfl, readR_nil rfl]
          exact hold x (by omega) (by omega) hx2)
        have e5 := e4 [] _ _ (recs_stop fun me b' next hfr hm1 hm2 => by
          obtain ⟨n', n1, n2, n3, n4, n5, n6, n7, n8, n9, n10⟩ := frr_inv hfr
          have hop : ∀ i : Nat, i < n' → G.at_ + (i : Int) < 514 ∧ epochOf (secAt Y (G.at_ + (i : Int))) = me ∧ seqOf (secAt Y (G.at_ + (i : Int))) = G.nx ∧ tlE (secAt Y (G.at_ + (i : Int))) = me ∧ tlQ (secAt Y (G.at_ + (i : Int))) = G.nx := fun i hi => by
            obtain ⟨h1, h2⟩ := n4 i hi; have h3 := open_marks (x := readR (flat Y) (G.at_ + (i : Int))) h2.1; have h4 := h2.2.1; rw [← n5, ← n6] at h4
            simp only [List.cons.injEq, and_true] at h4
            rw [show openR (readR (flat Y) (G.at_ + (i : Int))) = oAt (flat Y) G.at_ i from rfl, h4.1, h4.2, readR_nil rfl] at h3; exact ⟨by omega, h3⟩
          by_cases hme : me = G.s.e
          · have hnew : ∀ i : Nat, i < n' → i < k ∧ secAt Y (G.at_ + (i : Int)) = secB G.s.e G.nx b i := fun i hi => by
              obtain ⟨h1, h2, h3, h4, h5⟩ := hop i hi; have hst := h.st (G.at_ + (i : Int)) (by omega) h1
              rcases hP (G.at_ + (i : Int)) (by omega) h1 with h | ⟨j, hj, he, h | h⟩
              · rw [h] at h4 h5; have := hst.2 (by omega); omega
              · obtain rfl : i = j := by omega
                exact ⟨hj, h⟩
              · rw [h, (mix_tl (hf j hj)).1] at h4; rw [h, (mix_tl (hf j hj)).2] at h5; have := hst.2 (by omega); omega
            have h0 := (hnew 0 (by omega)).2
            have h1 : (oAt (flat Y) G.at_ 0).n = (needN b.length : Nat) := by
              unfold oAt; rw [readR_nil rfl]
              show (openR (secAt Y (G.at_ + ((0 : Nat) : Int)))).n = _
              rw [h0, secB_open hm hb (by omega)]
            have h2 := (hnew (needN b.length - 1) (by omega)).1; omega
          · have hsame : ∀ i : Nat, i < n' → secAt Y (G.at_ + (i : Int)) = secAt S.secs (G.at_ + (i : Int)) := fun i hi => by
              obtain ⟨h1, h2, h3, h4, h5⟩ := hop i hi
              rcases hP (G.at_ + (i : Int)) (by omega) h1 with h | ⟨j, hj, he, h | h⟩
              · exact h
              · have hs := seal_part hm hb (k := j) (by omega); have h6 : epochOf (secB G.s.e G.nx b j) = G.s.e := (seal_hd hs).1; rw [h, h6] at h2; exact absurd h2.symm hme
              · have hs := seal_part hm hb (k := j) (by omega); have h6 : epochOf (secB G.s.e G.nx b j) = G.s.e := (seal_hd hs).1; rw [h, (mix_hd (hf j hj)).1, h6] at h2; exact absurd h2.symm hme
            refine e3 me b' next (frr_loc (S := flat Y) (S' := flat S.secs) hlen.symm rfl hfr fun p hp1 hp2 => ?_) hm1 hm2; have := hsame (p - G.at_).toNat (by omega); rw [show G.at_ + (((p - G.at_).toNat : Nat) : Int) = p by omega] at this; rw [readR_nil rfl, readR_nil rfl]
            exact this.symm)
        rw [List.append_nil] at e5; exact e5
    | step hfw hw2 =>
      cases hw2
      have hfw := hfw.out; rw [if_neg (by rw [hm]; simp; omega), if_neg (by omega)] at hfw
      rcases put_endsL hd (by omega) (by omega) (fun k hk => secB_len hm hb hk) hfw with ⟨l, rfl, _⟩ | ⟨k, l, hk, rfl, hl0, h⟩
      · exact absurd (by rw [flush_ok (by exact hd)]) hne
      · cases h
  | ok h' hw =>
    rcases hmc with ⟨h1, _⟩ | ⟨_, h2⟩
    · rw [h'] at h1; cases h1
    have hns := needS_one b
    rcases wr_ends hw hd (by rw [hp]; simp) (fun c hc => by rw [List.mem_singleton] at hc; subst hc; exact hb) (by omega) (by omega) (by omega) (by omega) (by omega) (by simp; omega) with ⟨_, rfl, w2, w3, w4, w5, w6, w7⟩ | ⟨h, _⟩
    · rw [hns] at w6 ⊢
      have hread : ∀ p : Int, 0 ≤ p → p < 514 → p < G.at_ ∨ G.at_ + (needN b.length : Nat) ≤ p → secAt S'.secs p = secAt S.secs p := fun p h0 h1 h3 => by
        have := w6 p h0 (by omega) h3
        rwa [readR_nil w2, readR_nil hp] at this
      have hmk : ∀ p : Int, G.at_ ≤ p → p < G.at_ + (needN b.length : Nat) → epochOf (secAt S'.secs p) = G.s.e ∧ seqOf (secAt S'.secs p) = G.nx ∧ tlE (secAt S'.secs p) = G.s.e ∧ tlQ (secAt S'.secs p) = G.nx := fun p h0 h1 => by
        obtain ⟨q', m1, m2, m3⟩ := w7.marks p h0 (by rw [hns]; exact h1)
        obtain rfl : q' = G.nx := by simp at m2; omega
        rwa [readR_nil w2] at m3
      have hstr : ∀ p : Int, 2 ≤ p → p < 514 → (epochOf (secAt S'.secs p) = G.s.e → seqOf (secAt S'.secs p) < G.nx + 1) ∧ (tlE (secAt S'.secs p) = G.s.e → tlQ (secAt S'.secs p) < G.nx + 1) := fun p hp2 hp3 => by
        by_cases hc : G.at_ ≤ p ∧ p < G.at_ + (needN b.length : Nat)
        · have := hmk p hc.1 hc.2; exact ⟨fun _ => by omega, fun _ => by omega⟩
        · rw [hread p (by omega) hp3 (by omega)]; have := h.st p hp2 hp3; exact ⟨fun he => by have := this.1 he; omega, fun he => by have := this.2 he; omega⟩
      refine .inr (.inl ⟨rfl, h2, ⟨w3, w2, hbad, ⟨by omega, hok.2.1, hso, h.di.n1, h.di.be, ?_, ?_, fun p hp2 hp3 => ?_, ?_⟩, hstr⟩, rfl, w4⟩)
      · show secAt S'.secs (G.s.n % 2) = slotX G.s
        rw [hread _ (by omega) (by omega) (by omega)]; exact h.di.sl
      · show tlQ (secAt S'.secs ((G.s.n + 1) % 2)) < G.s.n
        rw [hread _ (by omega) (by omega) (by omega)]; exact h.di.ot
      · show epochOf (secAt S'.secs p) ≤ G.s.e ∧ tlE (secAt S'.secs p) ≤ G.s.e
        by_cases hc : G.at_ ≤ p ∧ p < G.at_ + (needN b.length : Nat)
        · have := hmk p hc.1 hc.2; omega
        · rw [hread p (by omega) hp3 (by omega)]; exact h.di.mx p hp2 hp3
      · have hlen : (flat S'.secs).secs.length = (flat S.secs).secs.length := w5
        obtain ⟨least', e1, e2, e3, e4⟩ := recs_ext (S' := flat S'.secs) hlen rfl (Int.le_refl _) h.di.rc (fun x hx hx2 => by
          rw [readR_nil rfl, readR_nil rfl]
          exact hread x (by omega) (by omega) (.inl hx2))
        have hbe := h.di.be; have hh : Holds (flat S'.secs) G.at_ G.s.e G.nx b := ⟨w7.1.1, w7.1.2.1, fun k hk => by rw [← read_flat w2]; exact w7.1.2.2 k hk⟩; refine e4 [b] _ _ (.step (frr_holds hh rfl (by omega) (by omega) (by show beginR G.s.h + 256 ≤ ((S'.secs.length : Nat) : Int); omega)) (by omega) (Int.le_refl _) (recs_stop fun me b' next hfr hm1 hm2 => ?_)); obtain ⟨f1, f2, f3⟩ := frr_mark hfr; rw [readR_nil rfl] at f2 f3; have := h.st (G.at_ + (needN b.length : Nat)) (by omega) (by omega); rw [← hread _ (by omega) (by omega) (.inr (Int.le_refl _))] at this; have f4 : seqOf (secAt S'.secs (G.at_ + (needN b.length : Nat))) < G.nx := this.1 (by have e : epochOf (secAt S'.secs (G.at_ + (needN b.length : Nat))) = me := f2; omega); have f5 : seqOf (secAt S'.secs (G.at_ + (needN b.length : Nat))) = G.nx + 1 := f3; omega
    · cases h
theorem rows_recs {S : DS} (hd : S.down = false) {en e : Int} (hen : en ≤ S.secs.length) : ∀ {bss : List (List UInt8)} {at_ q : Int}, 0 ≤ at_ → RowsAt S e at_ q bss → at_ + (needS bss : Nat) ≤ en → NoRec S en e e (at_ + (needS bss : Nat)) (q + (bss.length : Nat)) → Recs S en e e at_ q bss (at_ + (needS bss : Nat)) (q + (bss.length : Nat))
  | [], at_, q, h0, _, h1, h2 => by
    have e1 : at_ + ((needS [] : Nat) : Int) = at_ := by simp [needS]
    have e2 : q + ((([] : List (List UInt8)).length : Nat) : Int) = q := by simp
    rw [e1, e2] at h2 ⊢; exact recs_stop h2
  | b :: r, at_, q, h0, h, h1, h2 => by
    rw [needS_cons] at h1
    have e1 : at_ + ((needS (b :: r) : Nat) : Int) = at_ + (needN b.length : Nat) + (needS r : Nat) := by rw [needS_cons]; omega
    have e2 : q + (((b :: r).length : Nat) : Int) = q + 1 + (r.length : Nat) := by rw [List.length_cons]; omega
    rw [e1, e2] at h2 ⊢; exact .step (frr_holds h.1 hd h0 (by omega) hen) (Int.le_refl _) (Int.le_refl _) (rows_recs hd hen (by omega) h.2 (by omega) h2)
theorem rows_same {S S' : DS} {e : Int} : ∀ {bss : List (List UInt8)} {at_ q : Int}, (∀ p, at_ ≤ p → readR S' p = readR S p) → RowsAt S e at_ q bss → RowsAt S' e at_ q bss
  | [], at_, q, _, _ => trivial
  | b :: r, at_, q, hr, h => ⟨⟨h.1.1, h.1.2.1, fun k hk => by rw [hr _ (by omega)]; exact h.1.2.2 k hk⟩, rows_same (fun p hp => hr p (by omega)) h.2⟩
theorem beg (h : Int) : beginR h = 2 + h * 256 := rfl
theorem turn_li {S S' : DS} {G G' : LG} {bs bss : List (List UInt8)} {er : Int} (h : LI S G bs) (hb : ∀ b ∈ bss, needN b.length ≤ 255) (hx : G.nx + (bss.length : Nat) ≤ 16777215) (hn : G.s.n < 16777214) (hok : DOk S') (ht : TuR S G bss S' G' er) :
    (er = 5 ∧ S' = S ∧ G' = G ∧ 256 < needS bss) ∨
    (er = 0 ∧ needS bss ≤ 256 ∧ LI S' G' bss ∧ G' = ⟨turnS G, beginR (1 - G.s.h) + (needS bss : Nat), G.nx + (bss.length : Nat), 0⟩ ∧ (S.left = -1 → S'.left = -1)) ∨
    (er = 8 ∧ S.left ≠ -1 ∧ S'.down = true ∧ G' = G.ill 8 ∧ ∀ ks, DI (crashR S' ks).secs G.s bs G.at_ G.nx) := by
  obtain ⟨hd, hp, hbad, hl, hso⟩ := h.dn; have hrg := h.di.rng; have hso' := hso; unfold SlotOk at hso'; have hb1 := beg (1 - G.s.h); have hmc := may_cases (G := G) (room := 256) hbad hb (by omega)
  have hwr : ∀ S1 a er, WrR G.s.e S (beginR (1 - G.s.h)) G.nx bss S1 a er → needS bss ≤ 256 → _ := fun S1 a er hw h2 => wr_ends hw hd (by rw [hp]; simp) hb (by omega) (by omega) (by omega) (by omega) (by omega) (by omega)
  have hin : ∀ S1 : DS, S1.pend = [] → S1.secs.length = 514 → (∀ x ∈ S1.secs, x.length = 32) → needS bss ≤ 256 → (∀ p : Int, 0 ≤ p → p < (S.secs.length : Int) → p < beginR (1 - G.s.h) ∨ beginR (1 - G.s.h) + (needS bss : Nat) ≤ p → readR S1 p = readR S p) → RowsAt S1 G.s.e (beginR (1 - G.s.h)) G.nx bss →
      (∀ p : Int, 2 ≤ p → p < 514 → epochOf (secAt S1.secs p) ≤ G.s.e ∧ tlE (secAt S1.secs p) ≤ G.s.e) ∧ (∀ p : Int, 2 ≤ p → p < 514 → (epochOf (secAt S1.secs p) = G.s.e → seqOf (secAt S1.secs p) < G.nx + (bss.length : Nat)) ∧ (tlE (secAt S1.secs p) = G.s.e → tlQ (secAt S1.secs p) < G.nx + (bss.length : Nat))) ∧
      (∀ p : Int, 0 ≤ p → p < 514 → p < beginR (1 - G.s.h) ∨ beginR (1 - G.s.h) + (needS bss : Nat) ≤ p → secAt S1.secs p = secAt S.secs p) := fun S1 w2 w5 wa h2 w6 w7 => by
    have hread : ∀ p : Int, 0 ≤ p → p < 514 → p < beginR (1 - G.s.h) ∨ beginR (1 - G.s.h) + (needS bss : Nat) ≤ p → secAt S1.secs p = secAt S.secs p := fun p h0 h1 h3 => by
      have := w6 p h0 (by omega) h3
      rwa [readR_nil w2, readR_nil hp] at this
    have hmk : ∀ p : Int, beginR (1 - G.s.h) ≤ p → p < beginR (1 - G.s.h) + (needS bss : Nat) → ∃ q', G.nx ≤ q' ∧ q' < G.nx + (bss.length : Nat) ∧ epochOf (secAt S1.secs p) = G.s.e ∧ seqOf (secAt S1.secs p) = q' ∧ tlE (secAt S1.secs p) = G.s.e ∧ tlQ (secAt S1.secs p) = q' := fun p h0 h1 => by
      have := w7.marks p h0 h1
      rwa [readR_nil w2] at this
    refine ⟨fun p hp2 hp3 => ?_, fun p hp2 hp3 => ?_, hread⟩
    · by_cases hc : beginR (1 - G.s.h) ≤ p ∧ p < beginR (1 - G.s.h) + (needS bss : Nat)
      · obtain ⟨q', m1, m2, m3, m4, m5, m6⟩ := hmk p hc.1 hc.2; omega
      · rw [hread p (by omega) hp3 (by omega)]; exact h.di.mx p hp2 hp3
    · by_cases hc : beginR (1 - G.s.h) ≤ p ∧ p < beginR (1 - G.s.h) + (needS bss : Nat)
      · obtain ⟨q', m1, m2, m3, m4, m5, m6⟩ := hmk p hc.1 hc.2; exact ⟨fun _ => by omega, fun _ => by omega⟩
      · rw [hread p (by omega) hp3 (by omega)]; have := h.st p hp2 hp3; exact ⟨fun he => by have := this.1 he; omega, fun he => by have := this.2 he; omega⟩
  have hkeep : ∀ Y : List (List UInt8), Y.length = 514 → (∀ x ∈ Y, x.length = 32) → (∀ p : Int, 2 ≤ p → p < 514 → epochOf (secAt Y p) ≤ G.s.e ∧ tlE (secAt Y p) ≤ G.s.e) → (∀ p : Int, 0 ≤ p → p < 514 → p < beginR (1 - G.s.h) ∨ beginR (1 - G.s.h) + 256 ≤ p → secAt Y p = secAt S.secs p) → DI Y G.s bs G.at_ G.nx := fun Y y1 y2 y3 y4 =>
    ⟨y1, y2, hso, h.di.n1, h.di.be, by rw [y4 _ (by omega) (by omega) (by omega)]; exact h.di.sl, by rw [y4 _ (by omega) (by omega) (by omega)]; exact h.di.ot, y3,
      recs_in (S := flat S.secs) (S' := flat Y) (by show Y.length = S.secs.length; omega) rfl h.di.rc fun x hx hx2 => by
        rw [readR_nil rfl, readR_nil rfl]
        exact y4 x (by omega) (by omega) (by omega)⟩
  cases ht with
  | may h' =>
    rcases hmc with ⟨h1, h2⟩ | ⟨h1, _⟩
    · exact .inl ⟨h1, rfl, rfl, by omega⟩
    · exact absurd h1 h'
  | full _ h' => omega
  | wr h' _ hw hne =>
    rcases hmc with ⟨h1, _⟩ | ⟨_, h2⟩
    · rw [h'] at h1; cases h1
    rcases hwr _ _ _ hw (by omega) with ⟨h, _⟩ | ⟨rfl, w2, w3, w4, ps, w5, w6⟩
    · exact absurd h hne
    · refine .inr (.inr ⟨rfl, w3, w2, rfl, fun ks => ?_⟩); rw [hp, List.nil_append] at w5; obtain ⟨c1, c2⟩ := crash_ok hok ks
      have hP := fun (q : Int) (h0 : 0 ≤ q) (h1 : q < 514) => crash_P (S := S') (fun q c => (q < beginR (1 - G.s.h) ∨ beginR (1 - G.s.h) + 256 ≤ q → c = secAt S.secs q) ∧ (2 ≤ q → epochOf c ≤ G.s.e ∧ tlE c ≤ G.s.e)) ks
        (fun x hx => by rw [w5] at hx; have := w6 x hx; omega) (fun q h0 h1 => by rw [w4] at h1 ⊢; exact ⟨fun _ => rfl, fun h2 => h.di.mx q h2 (by omega)⟩)
        (fun x hx c m hm hlt hc => by
          rw [w5] at hx; obtain ⟨x1, x2, x3, x4, x5⟩ := w6 x hx; refine ⟨fun h => by omega, fun h2 => ?_⟩; have hc2 := hc.2 h2
          rcases hm with rfl | rfl | rfl
          · simpa using hc2
          · have e1 : epochOf (x.2.take 16 ++ c.drop 16) = epochOf x.2 := (mix_hd x3).1; have e2 : tlE (x.2.take 16 ++ c.drop 16) = tlE c := (mix_tl x3).1; rw [e1, e2, x4]; exact ⟨Int.le_refl _, hc2.2⟩
          · rw [List.take_of_length_le (by rw [x3]; exact Nat.le_refl _)]
            by_cases hcl : c.length ≤ 32
            · rw [List.drop_eq_nil_of_le hcl, List.append_nil, x4, x5]; exact ⟨Int.le_refl _, Int.le_refl _⟩
            · have e1 : ∀ k : Nat, k < 32 → bat (x.2 ++ c.drop 32) (k : Int) = bat x.2 (k : Int) := fun k hk => by
                rw [bat_nat, bat_nat, List.getD_eq_getElem?_getD, List.getD_eq_getElem?_getD, List.getElem?_append_left (by omega)]
              have f0 := e1 0 (by decide); have f1 := e1 1 (by decide); have f30 := e1 30 (by decide); have f31 := e1 31 (by decide)
              have g1 : epochOf (x.2 ++ c.drop 32) = epochOf x.2 := by
                show bat (x.2 ++ c.drop 32) ((0 : Nat) : Int) * 2 ^ 8 + bat (x.2 ++ c.drop 32) ((1 : Nat) : Int) = bat x.2 ((0 : Nat) : Int) * 2 ^ 8 + bat x.2 ((1 : Nat) : Int)
                rw [f0, f1]
              have g2 : tlE (x.2 ++ c.drop 32) = tlE x.2 := by
                show bat (x.2 ++ c.drop 32) ((30 : Nat) : Int) * 2 ^ 8 + bat (x.2 ++ c.drop 32) ((31 : Nat) : Int) = bat x.2 ((30 : Nat) : Int) * 2 ^ 8 + bat x.2 ((31 : Nat) : Int)
                rw [f30, f31]
              rw [g1, g2, x4, x5]
              exact ⟨Int.le_refl _, Int.le_refl _⟩) h0 (by rw [w4]; omega)
      exact hkeep _ (by rw [c1, w4]; exact hl) c2 (fun p hp2 hp3 => (hP p (by omega) hp3).2 hp2) (fun p h0 h1 h3 => (hP p h0 h1).1 h3)
  | st h' _ hw hne =>
    rename_i S1 wa0 hno0
    rcases hmc with ⟨h1, _⟩ | ⟨_, h2⟩
    · rw [h'] at h1; cases h1
    rcases hwr _ _ _ hw (by omega) with ⟨_, _, w2, w3, w4, w5, w6, w7⟩ | ⟨h, _⟩
    · rcases store_cases w3 w2 (by omega) (s := turnS G) (by show mayM G.s.e (G.s.n + 1) = true; unfold mayM; simp only [Bool.and_eq_true, decide_eq_true_eq]; omega) (by show 0 ≤ G.s.n + 1; omega) with ⟨hs, hl0⟩ | ⟨l, hs, _⟩
      · rw [hs] at hok ⊢; have wa : ∀ x ∈ S1.secs, x.length = 32 := hok.2.1; obtain ⟨i1, i2, i3⟩ := hin S1 w2 (by omega) wa (by omega) (fun p h0 h1 h3 => w6 p h0 h1 (by omega)) w7; refine .inr (.inr ⟨rfl, fun hc => by have := w4 hc; omega, rfl, rfl, fun ks => ?_⟩); rw [crash_nil (by exact w2)]; exact hkeep _ (by show S1.secs.length = 514; omega) wa i1 (fun p h0 h1 h3 => i3 p h0 h1 (by omega))
      · rw [hs] at hne; exact absurd rfl hne
    · cases h
  | ok h' _ hw hz =>
    rename_i S1 wa0 hno0
    rcases hmc with ⟨h1, _⟩ | ⟨_, h2⟩
    · rw [h'] at h1; cases h1
    rcases hwr _ _ _ hw (by omega) with ⟨_, rfl, w2, w3, w4, w5, w6, w7⟩ | ⟨h, _⟩
    · rcases store_cases w3 w2 (by omega) (s := turnS G) (by show mayM G.s.e (G.s.n + 1) = true; unfold mayM; simp only [Bool.and_eq_true, decide_eq_true_eq]; omega) (by show 0 ≤ G.s.n + 1; omega) with ⟨hs, hl0⟩ | ⟨l, hs, hl1⟩
      · rw [hs] at hz; cases hz
      rw [hs] at hok ⊢
      have hsec : ∀ q : Int, 0 ≤ q → secAt (S1.secs.set ((turnS G).n % 2).toNat (slotX (turnS G))) q = if (turnS G).n % 2 = q then slotX (turnS G) else secAt S1.secs q := fun q hq => sec_set (by omega) (by omega) hq
      have htn : (turnS G).n = G.s.n + 1 := rfl; have hte : (turnS G).e = G.s.e := rfl; have hth : (turnS G).h = 1 - G.s.h := rfl
      have hsT : SlotOk (turnS G) := by
        unfold SlotOk turnS; dsimp only; omega
      have hS2 : ∀ q : Int, 2 ≤ q → secAt (S1.secs.set ((turnS G).n % 2).toNat (slotX (turnS G))) q = secAt S1.secs q := fun q hq => by rw [hsec q (by omega), if_neg (by omega)]
      have wa : ∀ p : Int, 2 ≤ p → p < 514 → True := fun _ _ _ => trivial
      obtain ⟨i1, i2, i3⟩ := hin { S1 with secs := S1.secs } w2 (by show S1.secs.length = 514; omega) (fun x hx => by
        obtain ⟨k, hk, rfl⟩ := List.getElem_of_mem hx
        by_cases hc : k = ((turnS G).n % 2).toNat
        · have := w6 (k : Int) (by omega) (by omega) (by omega); rw [readR_nil w2, readR_nil hp] at this; have h3 := secAt_len h.di.all (p := (k : Int)) (by omega) (by omega); rw [← this] at h3
          have e : secAt S1.secs (k : Int) = S1.secs[k] := by
            unfold secAt; rw [Int.toNat_natCast, List.getD_eq_getElem?_getD, List.getElem?_eq_getElem hk]
            rfl
          rw [← e]; exact h3
        · have hk2 : k < (S1.secs.set ((turnS G).n % 2).toNat (slotX (turnS G))).length := by rw [List.length_set]; exact hk
          have := hok.2.1 _ (List.getElem_mem hk2)
          rwa [List.getElem_set_ne (by omega)] at this) (by omega) (fun p h0 h1 h3 => w6 p h0 h1 (by omega)) w7
      replace i1 : ∀ p : Int, 2 ≤ p → p < 514 → epochOf (secAt S1.secs p) ≤ G.s.e ∧ tlE (secAt S1.secs p) ≤ G.s.e := i1; replace i2 : ∀ p : Int, 2 ≤ p → p < 514 → (epochOf (secAt S1.secs p) = G.s.e → seqOf (secAt S1.secs p) < G.nx + (bss.length : Nat)) ∧ (tlE (secAt S1.secs p) = G.s.e → tlQ (secAt S1.secs p) < G.nx + (bss.length : Nat)) := i2; replace i3 : ∀ p : Int, 0 ≤ p → p < 514 → p < beginR (1 - G.s.h) ∨ beginR (1 - G.s.h) + (needS bss : Nat) ≤ p → secAt S1.secs p = secAt S.secs p := i3; refine .inr (.inl ⟨rfl, by omega, ⟨w3, rfl, hbad, ⟨?_, hok.2.1, hsT, ?_, Int.le_refl _, ?_, ?_, fun p hp2 hp3 => ?_, ?_⟩, fun p hp2 hp3 => ?_⟩, by rw [hbad], fun hc => hl1 (w4 hc)⟩)
      · dsimp only; rw [List.length_set]; omega
      · show 1 ≤ G.s.n + 1
        omega
      · show secAt (S1.secs.set ((turnS G).n % 2).toNat (slotX (turnS G))) ((turnS G).n % 2) = _
        rw [hsec _ (by omega), if_pos rfl]
      · show tlQ (secAt (S1.secs.set ((turnS G).n % 2).toNat (slotX (turnS G))) (((turnS G).n + 1) % 2)) < (turnS G).n
        rw [hsec _ (by omega), if_neg (by omega), show ((turnS G).n + 1) % 2 = G.s.n % 2 by omega, i3 _ (by omega) (by omega) (by omega), h.di.sl, slot_tl hso]; omega
      · show epochOf (secAt (S1.secs.set ((turnS G).n % 2).toNat (slotX (turnS G))) p) ≤ G.s.e ∧ tlE (secAt (S1.secs.set ((turnS G).n % 2).toNat (slotX (turnS G))) p) ≤ G.s.e
        rw [hS2 p hp2]; exact i1 p hp2 hp3
      · have hr2 : ∀ p : Int, beginR (1 - G.s.h) ≤ p → readR (flat (S1.secs.set ((turnS G).n % 2).toNat (slotX (turnS G)))) p = readR S1 p := fun p hp => by
          rw [readR_nil rfl, readR_nil w2]; exact hS2 p (by omega)
        show Recs (flat (S1.secs.set ((turnS G).n % 2).toNat (slotX (turnS G)))) (beginR (1 - G.s.h) + 256) G.s.e G.s.e (beginR (1 - G.s.h)) G.nx bss (beginR (1 - G.s.h) + (needS bss : Nat)) (G.nx + (bss.length : Nat))
        refine rows_recs (S := flat (S1.secs.set ((turnS G).n % 2).toNat (slotX (turnS G)))) rfl (en := beginR (1 - G.s.h) + 256) (e := G.s.e) (by
          show beginR (1 - G.s.h) + 256 ≤ (((S1.secs.set ((turnS G).n % 2).toNat (slotX (turnS G))).length : Nat) : Int)
          rw [List.length_set]; omega) (by omega) (rows_same hr2 w7) (by omega) fun me b' next hfr hm1 hm2 => ?_
        obtain ⟨f1, f2, f3⟩ := frr_mark hfr; rw [readR_nil rfl] at f2 f3; have f4 := i2 (beginR (1 - G.s.h) + (needS bss : Nat)) (by omega) (by omega); rw [← hS2 _ (by omega)] at f4
        have f5 : seqOf (secAt (S1.secs.set ((turnS G).n % 2).toNat (slotX (turnS G))) (beginR (1 - G.s.h) + (needS bss : Nat))) < G.nx + (bss.length : Nat) := f4.1 (by
          have e : epochOf (secAt (S1.secs.set ((turnS G).n % 2).toNat (slotX (turnS G))) (beginR (1 - G.s.h) + (needS bss : Nat))) = me := f2
          omega)
        have f6 : seqOf (secAt (S1.secs.set ((turnS G).n % 2).toNat (slotX (turnS G))) (beginR (1 - G.s.h) + (needS bss : Nat))) = G.nx + (bss.length : Nat) := f3; omega
      · show (epochOf (secAt (S1.secs.set ((turnS G).n % 2).toNat (slotX (turnS G))) p) = G.s.e → seqOf (secAt (S1.secs.set ((turnS G).n % 2).toNat (slotX (turnS G))) p) < G.nx + (bss.length : Nat)) ∧ (tlE (secAt (S1.secs.set ((turnS G).n % 2).toNat (slotX (turnS G))) p) = G.s.e → tlQ (secAt (S1.secs.set ((turnS G).n % 2).toNat (slotX (turnS G))) p) < G.nx + (bss.length : Nat))
        rw [hS2 p hp2]; exact i2 p hp2 hp3
    · cases h
end Go.Proofs.YtadgbifmiooikaaX
namespace Go.Proofs.YtadgbifmiooikaaX
set_option linter.unusedVariables false
set_option linter.unusedSimpArgs false
set_option linter.constructorNameAsVariable false
open Go Go.RowKit
theorem zeroB_not : openOk zeroB = false := by decide
theorem zeroB_open : openR zeroB = ⟨0, 0, 0, 0, [], 2⟩ := openR_bad zeroB_not
theorem zeroB_slot : slotAt zeroB = none := by
  unfold slotAt; rw [zeroB_open]
  rfl
theorem zero_norec (Y : List (List UInt8)) (hY : secAt Y 2 = zeroB) : NoRec (flat Y) (beginR slot1.h + 256) slot1.e slot1.b (beginR slot1.h) slot1.f := by
  intro me b next hfr _ _
  generalize beginR slot1.h + 256 = en at hfr
  have e2 : beginR slot1.h = 2 := by decide
  rw [e2] at hfr; have hm := frr_mark hfr; have f3 := hm.2.2; rw [readR_nil rfl] at f3; have f4 : seqOf (secAt Y 2) = 1 := f3; rw [hY] at f4; exact absurd f4 (by decide)
theorem format_di {S S' : DS} {er : Int} (hd : S.down = false) (hl : S.secs.length = 514) (hok : DOk S) (hok' : DOk S') (hf : FmR S S' er) :
    (er = 0 ∧ DI S'.secs slot1 [] 2 1 ∧ S'.pend = [] ∧ S'.down = false ∧ (S.left = -1 → S'.left = -1)) ∨ (er = 8 ∧ S.left ≠ -1 ∧ S'.down = true) := by
  have hz32 : zeroB.length = 32 := rfl
  have hput := fun k (hk : k ≤ 514) hz => put_any hd (at_ := 0) (f := fun _ => zeroB) (n := 514) (by omega) (by omega) (fun _ _ => hz32) k hk hz
  have hflush : ∀ l, (S.left = -1 → l = -1) → zput S 514 = { S with pend := S.pend ++ putP 0 (fun _ => zeroB) 514, left := l } → ∃ X, flushR (zput S 514) = ({ S with secs := X, pend := [], left := l }, 0) ∧ X.length = 514 ∧ ∀ p : Int, 0 ≤ p → p < 514 → secAt X p = zeroB := fun l _ hz => by
    rw [hz]; refine ⟨_, flush_ok (S := { S with pend := S.pend ++ putP 0 (fun _ => zeroB) 514, left := l }) hd, by rw [flush_len]; exact hl, fun p h0 h1 => ?_⟩
    have h2 := flush_read (S := { S with pend := S.pend ++ putP 0 (fun _ => zeroB) 514, left := l }) hd (fun x hx => by
      rcases List.mem_append.1 hx with hx | hx
      · exact (hok.2.2.1 x hx).2
      · obtain ⟨j, hj, rfl⟩ := putP_mem hx; dsimp only
        omega) (p := p) h0 (by show p < (S.secs.length : Int); omega)
    rw [flush_ok (S := { S with pend := S.pend ++ putP 0 (fun _ => zeroB) 514, left := l }) hd, readR_nil rfl] at h2; dsimp only at h2; rw [h2]; have h3 := read_in (S := { S with left := l }) (at_ := 0) (f := fun _ => zeroB) (n := 514) (j := p.toNat) (by omega)
    rwa [show (0 : Int) + ((p.toNat : Nat) : Int) = p by omega] at h3
  cases hf with
  | len h => omega
  | wr _ hk hz hne =>
    rename_i k hk0
    obtain ⟨l, h, hl0⟩ := hput k (by omega) hz; have e1 : zput S (k + 1) = (writeR (putTo S 0 (fun _ => zeroB) k) (0 + (k : Int)) zeroB).1 := rfl; have e2 : zputE S k = (writeR (putTo S 0 (fun _ => zeroB) k) (0 + (k : Int)) zeroB).2 := rfl; rw [h] at e1 e2
    rcases write_cases (S := { S with pend := S.pend ++ putP 0 (fun _ => zeroB) k, left := l }) hd (a := 0 + (k : Int)) (b := zeroB) (by omega) (by show 0 + (k : Int) < (S.secs.length : Int); omega) hz32 with ⟨h', hl'⟩ | ⟨l', h', _⟩
    · rw [h'] at e1 e2; rw [e1, e2]; have hl'' : l = 0 := hl'; exact .inr ⟨rfl, fun hc => by have := hl0 hc; omega, rfl⟩
    · rw [h'] at e2; exact absurd e2 hne
  | fl _ hz hne =>
    obtain ⟨l, h, hl0⟩ := hput 514 (Nat.le_refl _) hz; obtain ⟨X, hX, _⟩ := hflush l hl0 h; rw [hX] at hne; exact absurd rfl hne
  | st _ hz _ =>
    obtain ⟨l, h, hl0⟩ := hput 514 (Nat.le_refl _) hz; obtain ⟨X, hX, hX1, hX2⟩ := hflush l hl0 h; rw [hX] at hok' ⊢; dsimp only at hok' ⊢
    rcases store_cases (S := { S with secs := X, pend := [], left := l }) hd rfl hX1 (s := slot1) (by decide) (by decide) with ⟨hs, hl1⟩ | ⟨l', hs, hl1⟩
    · rw [hs]; have hl'' : l = 0 := hl1; exact .inr ⟨rfl, fun hc => by have := hl0 hc; omega, rfl⟩
    · rw [hs] at hok' ⊢
      have hsec : ∀ q : Int, 0 ≤ q → secAt (X.set (slot1.n % 2).toNat (slotX slot1)) q = if slot1.n % 2 = q then slotX slot1 else secAt X q := fun q hq => sec_set (by decide) (by rw [hX1]; decide) hq
      have h2 : ∀ p : Int, 2 ≤ p → p < 514 → secAt (X.set (slot1.n % 2).toNat (slotX slot1)) p = zeroB := fun p hp hp2 => by
        rw [hsec p (by omega), if_neg (by show ¬ (1 : Int) % 2 = p; omega), hX2 p (by omega) hp2]
      refine .inl ⟨rfl, ⟨by dsimp only; rw [List.length_set]; exact hX1, hok'.2.1, by unfold SlotOk slot1; decide, by decide, by decide, ?_, ?_, fun p hp hp2 => ?_, ?_⟩, rfl, hd, fun hc => hl1 (hl0 hc)⟩
      · show secAt (X.set (slot1.n % 2).toNat (slotX slot1)) (slot1.n % 2) = _
        rw [hsec _ (by decide), if_pos rfl]
      · show tlQ (secAt (X.set (slot1.n % 2).toNat (slotX slot1)) ((slot1.n + 1) % 2)) < slot1.n
        rw [hsec _ (by decide), if_neg (by decide), hX2 _ (by decide) (by show ((1 : Int) + 1) % 2 < 514; omega)]
        decide
      · show epochOf (secAt (X.set (slot1.n % 2).toNat (slotX slot1)) p) ≤ slot1.e ∧ tlE (secAt (X.set (slot1.n % 2).toNat (slotX slot1)) p) ≤ slot1.e
        rw [h2 p hp hp2]
        decide
      · exact recs_stop (zero_norec _ (h2 2 (by omega) (by omega)))
def newL : DS := ⟨List.replicate 514 zeroB, [], -1, false⟩
theorem newL_none : newestR newL = (slot0, 3) := by
  have h : ∀ p : Int, p = 0 ∨ p = 1 → slotAt (readR newL p) = none := fun p hp => by
    rw [readR_nil rfl]
    rcases hp with rfl | rfl <;> exact zeroB_slot
  unfold newestR; rw [if_neg (by decide), if_neg (by show ¬ (List.replicate 514 zeroB).length < 2; rw [List.length_replicate]; decide), h 0 (.inl rfl), h 1 (.inr rfl)]
  rfl
theorem newL_opn {S' : DS} {er : Int} {G : LG} {bs : List (List UInt8)} (h : OpnR newL S' er G bs) : S' = newL ∧ er = 3 := by
  have h0 := newL_none
  cases h with
  | len h => exact absurd (by show ((List.replicate 514 zeroB).length : Int) = 514; rw [List.length_replicate]; omega) h
  | none _ _ => rw [h0]; exact ⟨rfl, rfl⟩
  | st1 _ h _ => rw [h0] at h; cases h
  | full _ h _ _ => rw [h0] at h; cases h
  | st2 _ h _ _ _ => rw [h0] at h; cases h
  | ok _ h _ _ _ _ => rw [h0] at h; cases h
end Go.Proofs.YtadgbifmiooikaaX
namespace Go.Proofs.YtadgbifmiooikaaX
set_option linter.unusedVariables false
set_option linter.unusedSimpArgs false
open Go Go.RowKit Go.Proofs
theorem newR_L : newR 514 = newL := by
  unfold newR newL; rw [if_neg (by decide), if_neg (by decide)]
  rfl
theorem DiskO.ok {d : Value} {S : DS} {Ld : Own} (hd : DiskO d S Ld) : DOk S := by obtain ⟨_, _, _, _, _, _, _, _, _, hok⟩ := hd; exact hok
theorem format_up {w0 w : World} {I : Imm} {L Ld : Own} {d : Value} {S : DS} (hd : DiskO d S Ld) (hst : St w0 w I (Ld ++ L)) (hu : Up S) (hl : S.secs.length = 514) (hpn : S.pend.length ≤ 600000) :
    Calls Try.prog 13 #[d] w fun e w' => ∃ I' Ld' S', Imm.le I I' ∧ e = .returned (.int .i64 0) ∧ St w0 w' I' (Ld' ++ L) ∧ DiskO d S' Ld' ∧ Up S' ∧ S'.pend = [] ∧ DI S'.secs slot1 [] 2 1 := by
  refine (format_log hd hst hpn).mono fun e w' ⟨I', Ld', S', er, h1, h2, h3, h4, h5⟩ => ?_
  rcases format_di hu.1 hl hd.ok h4.ok h5 with ⟨rfl, g1, g2, g3, g4⟩ | ⟨_, g, _⟩
  · exact ⟨I', Ld', S', h1, h2, h3, h4, ⟨g3, g4 hu.2⟩, g2, g1⟩
  · exact absurd hu.2 g
theorem open_up {w0 w : World} {I : Imm} {L Ld : Own} {d : Value} {S : DS} {s : Slot} {bs : List (List UInt8)} {a nx : Int} (hd : DiskO d S Ld) (hst : St w0 w I (Ld ++ L)) (hu : Up S) (hp : S.pend = []) (hdi : DI S.secs s bs a nx) (hb : s.n < 16777215 ∧ s.e < 65535) :
    Calls Try.prog 14 #[d] w fun e w' => ∃ I' Ld' lb y vs S', Imm.le I I' ∧ e = .returned (.tuple #[.pointer (some ⟨lb, 0, none⟩), y, .int .i64 0]) ∧ St w0 w' I' ((lb, .cells (logV d ⟨s.up, a, nx, 0⟩).toArray 74) :: (Ld' ++ L)) ∧ DiskO d S' Ld' ∧ RdR I' y vs bs ∧ LI S' ⟨s.up, a, nx, 0⟩ bs ∧ Up S' := by
  refine (open_log hd hst (by rw [hp]; exact Nat.zero_le _)).mono fun e w' ⟨I', Ld', Lo, x, y, S', er, G, bs', h1, h2, h3, h4, h5, h6⟩ => ?_
  rcases open_di hu.1 hp hdi hb h6 with ⟨rfl, rfl, rfl, g3, g4⟩ | ⟨_, g, _⟩
  · rcases h5 with ⟨h, _⟩ | ⟨_, lb, vs, rfl, rfl, hr⟩
    · exact absurd rfl h
    · exact ⟨I', Ld', lb, y, vs, S', h1, h2, h3, h4, hr, g3, g3.on, g4 hu.2⟩
  · exact absurd hu.2 g
theorem open_none {w0 w : World} {I : Imm} {L Ld : Own} {d : Value} (hd : DiskO d newL Ld) (hst : St w0 w I (Ld ++ L)) :
    Calls Try.prog 14 #[d] w fun e w' => ∃ I' Ld', Imm.le I I' ∧ e = .returned (.tuple #[.pointer none, .slice none 0 0, .int .i64 3]) ∧ St w0 w' I' (Ld' ++ L) ∧ DiskO d newL Ld' := by
  refine (open_log hd hst (Nat.zero_le _)).mono fun e w' ⟨I', Ld', Lo, x, y, S', er, G, bs', h1, h2, h3, h4, h5, h6⟩ => ?_
  obtain ⟨rfl, rfl⟩ := newL_opn h6
  rcases h5 with ⟨_, rfl, rfl, rfl⟩ | ⟨h, _⟩
  · exact ⟨I', Ld', h1, h2, h3, h4⟩
  · cases h
end Go.Proofs.YtadgbifmiooikaaX
namespace Go.Proofs.YtadgbifmiooikaaX
set_option linter.unusedVariables false
set_option linter.unusedSimpArgs false
open Go Go.RowKit
abbrev AT := List (Int × It) × Int
def apE (b : List UInt8) : Int :=
  if wordOf ((decA b).getD []) = putL then (if (putOk ((decA b).getD []) b).isSome = true then 0 else 2)
  else if isNum (atA ((decA b).getD []) 1) = true ∧ ((decA b).getD []).length = 2 then
    (if wordOf ((decA b).getD []) = dropL then 0 else if wordOf ((decA b).getD []) = nextL then 0 else 2)
  else 2
def apS (s : AT) (b : List UInt8) : AT :=
  if wordOf ((decA b).getD []) = putL then match putOk ((decA b).getD []) b with
    | some it => (pput s.1 it.id it, nextR s.2 it.id)
    | none => s
  else if isNum (atA ((decA b).getD []) 1) = true ∧ ((decA b).getD []).length = 2 then
    (if wordOf ((decA b).getD []) = dropL then (pdel s.1 (numOf (atA ((decA b).getD []) 1)), s.2)
    else if wordOf ((decA b).getD []) = nextL then (s.1, if numOf (atA ((decA b).getD []) 1) > s.2 then numOf (atA ((decA b).getD []) 1) else s.2)
    else s)
  else s
theorem Ap_abs {b : List UInt8} {rows rows' : List TRow} {next next' err : Int} (ha : Ap b rows next err rows' next') : err = apE b ∧ (absT rows', next') = apS (absT rows, next) b := by
  unfold Ap at ha; unfold apE apS
  by_cases h1 : wordOf ((decA b).getD []) = putL
  · rw [if_pos h1] at ha ⊢; rw [if_pos h1]
    cases hp : putOk ((decA b).getD []) b with
    | some it =>
      rw [hp] at ha; obtain ⟨rfl, ⟨v, rfl⟩, rfl⟩ := ha; exact ⟨rfl, by rw [absT_put]⟩
    | none =>
      rw [hp] at ha; obtain ⟨rfl, rfl, rfl⟩ := ha; exact ⟨rfl, rfl⟩
  · rw [if_neg h1] at ha ⊢; rw [if_neg h1]
    by_cases h2 : isNum (atA ((decA b).getD []) 1) = true ∧ ((decA b).getD []).length = 2
    · rw [if_pos h2] at ha ⊢; rw [if_pos h2]
      by_cases h3 : wordOf ((decA b).getD []) = dropL
      · rw [if_pos h3] at ha ⊢; rw [if_pos h3]; obtain ⟨rfl, rfl, rfl⟩ := ha; exact ⟨rfl, by rw [absT_del]⟩
      · rw [if_neg h3] at ha ⊢; rw [if_neg h3]
        by_cases h4 : wordOf ((decA b).getD []) = nextL
        · rw [if_pos h4] at ha ⊢; rw [if_pos h4]; obtain ⟨rfl, rfl, rfl⟩ := ha; exact ⟨rfl, rfl⟩
        · rw [if_neg h4] at ha ⊢; rw [if_neg h4]; obtain ⟨rfl, rfl, rfl⟩ := ha; exact ⟨rfl, rfl⟩
    · rw [if_neg h2] at ha ⊢; rw [if_neg h2]; obtain ⟨rfl, rfl, rfl⟩ := ha; exact ⟨rfl, rfl⟩
theorem Ap_ex (b : List UInt8) (rows : List TRow) (next : Int) : ∃ err rows' next', Ap b rows next err rows' next' := by
  unfold Ap
  split
  · split
    · exact ⟨0, _, _, rfl, ⟨.nilIface, rfl⟩, rfl⟩
    · exact ⟨2, _, _, rfl, rfl, rfl⟩
  · split
    · split
      · exact ⟨0, _, _, rfl, rfl, rfl⟩
      · split
        · exact ⟨0, _, _, rfl, rfl, rfl⟩
        · exact ⟨2, _, _, rfl, rfl, rfl⟩
    · exact ⟨2, _, _, rfl, rfl, rfl⟩
def playS (bs : List (List UInt8)) : AT := bs.foldl apS ([], 1)
theorem playS_add (bs : List (List UInt8)) (b : List UInt8) : playS (bs ++ [b]) = apS (playS bs) b := by unfold playS; rw [List.foldl_append]; rfl
def SEq (s t : AT) : Prop := s.2 = t.2 ∧ ∀ k, pget s.1 k = pget t.1 k
theorem SEq.refl (s : AT) : SEq s s := ⟨rfl, fun _ => rfl⟩
theorem SEq.symm {s t : AT} (h : SEq s t) : SEq t s := ⟨h.1.symm, fun k => (h.2 k).symm⟩
theorem SEq.trans {s t u : AT} (h : SEq s t) (h' : SEq t u) : SEq s u := ⟨h.1.trans h'.1, fun k => (h.2 k).trans (h'.2 k)⟩
abbrev Nd (s : AT) : Prop := (s.1.map Prod.fst).Nodup
theorem apS_nd {s : AT} {b : List UInt8} (h : Nd s) : Nd (apS s b) := by
  unfold apS
  split
  · split
    · exact pput_nodup h _ _
    · exact h
  · split
    · split
      · exact pdel_nodup h _
      · split
        · exact h
        · exact h
    · exact h
theorem apS_eq {s t : AT} {b : List UInt8} (hs : Nd s) (ht : Nd t) (h : SEq s t) : SEq (apS s b) (apS t b) := by
  obtain ⟨h1, h2⟩ := h; unfold apS
  split
  · split
    · exact ⟨by dsimp only; rw [h1], fun k => by dsimp only; rw [pget_put, pget_put, h2]⟩
    · exact ⟨h1, h2⟩
  · split
    · split
      · exact ⟨h1, fun k => by dsimp only; rw [pget_del hs, pget_del ht, h2]⟩
      · split
        · exact ⟨by dsimp only; rw [h1], h2⟩
        · exact ⟨h1, h2⟩
    · exact ⟨h1, h2⟩
theorem playS_nd (bs : List (List UInt8)) : Nd (playS bs) := by
  have : ∀ (bs : List (List UInt8)) (s : AT), Nd s → Nd (bs.foldl apS s) := by
    intro bs
    induction bs with
    | nil => intro s h; exact h
    | cons b r ih => intro s h; exact ih _ (apS_nd h)
  exact this bs _ List.nodup_nil
theorem TbI.of {A : List (Int × It)} {next : Int} {s : AT} (h : TbI A next) (e : SEq s (A, next)) (hn : Nd s) : TbI s.1 s.2 := by
  obtain ⟨e1, e2⟩ := e
  have hm : ∀ r ∈ s.1, r ∈ A := fun r hr => pget_mem (by rw [← e2]; exact pget_some hn (k := r.1) (u := r.2) hr)
  have e1' : s.2 = next := e1; exact ⟨hn, fun r hr => h.id r (hm r hr), fun r hr => h.ok r (hm r hr), fun r hr => by rw [e1']; exact h.lt r (hm r hr), by rw [e1']; exact h.nx, by rw [e1']; exact h.nz, fun r hr => h.hl r (hm r hr)⟩
abbrev RecOk (b : List UInt8) : Prop := apE b = 0 ∧ b.length ≤ 1000000
structure SI (bs : List (List UInt8)) (A : List (Int × It)) (next : Int) : Prop where
  ok : ∀ b ∈ bs, RecOk b
  eq : SEq (playS bs) (A, next)
theorem SI.nil : SI [] [] 1 := ⟨by simp, SEq.refl _⟩
theorem SI.add {bs : List (List UInt8)} {A : List (Int × It)} {next : Int} (h : SI bs A next) (hn : (A.map Prod.fst).Nodup) {b : List UInt8} (hb : RecOk b) : SI (bs ++ [b]) (apS (A, next) b).1 (apS (A, next) b).2 := by
  refine ⟨fun x hx => ?_, ?_⟩
  · rcases List.mem_append.1 hx with hx | hx
    · exact h.ok x hx
    · rw [List.mem_singleton.1 hx]; exact hb
  · rw [playS_add]; exact apS_eq (playS_nd bs) hn h.eq
theorem play_recs {A : List (Int × It)} {next : Int} (h : TbI A next) : playS (recsA A next) = (mkT A (keysUp A).length, next) ∧ ∀ b ∈ recsA A next, RecOk b := by
  have key : ∀ j, j ≤ (recsA A next).length → ∃ rows nx, (absT rows, nx) = playS ((recsA A next).take j) ∧ ((j = 0 ∧ rows = [] ∧ nx = 1) ∨ (1 ≤ j ∧ absT rows = mkT A (j - 1) ∧ nx = next)) ∧ ∀ i, i < j → ∀ b, (recsA A next)[i]? = some b → apE b = 0 := by
    intro j
    induction j with
    | zero => intro _; exact ⟨[], 1, rfl, .inl ⟨rfl, rfl, rfl⟩, fun i hi => by omega⟩
    | succ j ih =>
      intro hj; obtain ⟨rows, nx, e, hc, ho⟩ := ih (by omega); obtain ⟨b, hb⟩ : ∃ b, (recsA A next)[j]? = some b := ⟨_, List.getElem?_eq_getElem (by omega)⟩; obtain ⟨err, rows', nx', ha⟩ := Ap_ex b rows nx; obtain ⟨g1, g2, g3⟩ := remake_step h hb hc ha; obtain ⟨a1, a2⟩ := Ap_abs ha; refine ⟨rows', nx', ?_, .inr ⟨by omega, by rw [Nat.add_sub_cancel]; exact g2, g3⟩, fun i hi c hc2 => ?_⟩
      · rw [List.take_add_one, hb]
        show _ = playS (_ ++ [b])
        rw [playS_add, ← e, a2]
      · rcases Nat.lt_or_ge i j with h2 | h2
        · exact ho i h2 c hc2
        · obtain rfl : i = j := by omega
          rw [hb] at hc2
          cases hc2
          rw [← a1, g1]
  obtain ⟨rows, nx, e, hc, ho⟩ := key _ (Nat.le_refl _); rw [List.take_length] at e; refine ⟨?_, fun b hb => ?_⟩
  · rw [← e]; have hl := recsA_len A next
    rcases hc with ⟨h0, _⟩ | ⟨_, h1, h2⟩
    · omega
    · rw [h1, h2, keysUp_len, hl, Nat.add_sub_cancel]
  · obtain ⟨i, hi⟩ := List.getElem?_of_mem hb; exact ⟨ho i (List.getElem?_eq_some_iff.1 hi).1 b hi, recsA_bound h hi⟩
theorem mkT_seq {A : List (Int × It)} {next : Int} (h : TbI A next) : SEq (mkT A (keysUp A).length, next) (A, next) := ⟨rfl, fun k => mkT_get h.nd k⟩
theorem mkT_nd {A : List (Int × It)} {next : Int} (h : TbI A next) : Nd (mkT A (keysUp A).length, next) := by
  show ((mkT A (keysUp A).length).map Prod.fst).Nodup
  rw [mkT_keys]; exact (List.mergeSort_perm _ _).nodup_iff.2 h.nd
theorem SI.recs {A : List (Int × It)} {next : Int} (h : TbI A next) : SI (recsA A next) A next := ⟨(play_recs h).2, by rw [(play_recs h).1]; exact mkT_seq h⟩
theorem SI.to {bs : List (List UInt8)} {A : List (Int × It)} {next : Int} (h : SI bs A next) {t : AT} (e : SEq (A, next) t) : SI bs t.1 t.2 := ⟨h.ok, h.eq.trans e⟩
def turnA (A : List (Int × It)) (next : Int) (b : List UInt8) : AT := apS (mkT A (keysUp A).length, next) b
theorem turn_seq {A : List (Int × It)} {next : Int} (h : TbI A next) (b : List UInt8) : SEq (turnA A next b) (apS (A, next) b) ∧ Nd (turnA A next b) := ⟨apS_eq (mkT_nd h) h.nd (mkT_seq h), apS_nd (mkT_nd h)⟩
theorem turn_ok {A : List (Int × It)} {next : Int} (h : TbI A next) {b : List UInt8} (h2 : TbI (apS (A, next) b).1 (apS (A, next) b).2) : TbI (turnA A next b).1 (turnA A next b).2 ∧ SI (recsA (turnA A next b).1 (turnA A next b).2) (apS (A, next) b).1 (apS (A, next) b).2 := by
  obtain ⟨e, hn⟩ := turn_seq h b; have h3 := h2.of (s := turnA A next b) e hn; exact ⟨h3, (SI.recs h3).to e⟩
theorem needS_map {A : List (Int × It)} {next : Int} {m : Nat} (h1 : needN (encA [.txt nextS, .num next]).length ≤ 1) (h : ∀ r ∈ A, needN (recB r.2).length ≤ m) (hn : (A.map Prod.fst).Nodup) : needS (recsA A next) ≤ 1 + A.length * m := by
  unfold recsA; rw [needS_cons]
  have key : ∀ (l : List Int), (∀ k ∈ l, k ∈ A.map Prod.fst) → needS (l.map fun k => recB (itA A k)) ≤ l.length * m := by
    intro l
    induction l with
    | nil => intro _; simp [needS]
    | cons k r ih =>
      intro hl; rw [List.map_cons, needS_cons, List.length_cons]; have h2 := ih (fun x hx => hl x (List.mem_cons_of_mem _ hx)); have hk := hl k (List.mem_cons_self ..)
      obtain ⟨it, hit⟩ : ∃ it, pget A k = some it := by
        cases h3 : pget A k with
        | none => exact absurd hk (pget_none.1 h3)
        | some it => exact ⟨it, rfl⟩
      have h4 := h _ (pget_mem hit)
      have h5 : itA A k = it := by unfold itA; rw [hit]; rfl
      rw [h5]; dsimp only at h4; rw [Nat.add_mul]; omega
  have := key (keysUp A) (fun k hk => (keysUp_mem A k).1 hk); rw [keysUp_len] at this; omega
theorem drop_rec {n : Int} (hn : i64ok n) : RecOk (encA [.txt dropS, .num n]) ∧ ∀ s, apS s (encA [.txt dropS, .num n]) = (pdel s.1 n, s.2) := by
  have hd := decA_encA (Nat.le_refl 255) (two_good (t := dropS) (by decide) hn); have hw : wordOf [.txt dropS, .num n] = dropL := wordOf_txt dropL _; refine ⟨⟨?_, Nat.le_trans (encA_le (two_ok (by decide) hn)) (by show 2 * 257 ≤ 1000000; decide)⟩, fun s => ?_⟩
  · unfold apE; rw [hd, Option.getD_some, hw, if_neg (by decide), at_1, if_pos ⟨rfl, rfl⟩, if_pos rfl]
  · unfold apS; rw [hd, Option.getD_some, hw, if_neg (by decide), at_1, if_pos ⟨rfl, rfl⟩, if_pos rfl]
    rfl
theorem put_rec {it : It} (hok : ItOk it) (ho : encOk (itAV it) = true) : apE (recB it) = 0 ∧ ∀ s, apS s (recB it) = (pput s.1 it.id it, nextR s.2 it.id) := by
  have hd := decA_rec it; have hw : wordOf (recAV (encA (itAV it)) (ckCnt (encA (itAV it)).length)) = putL := wordOf_txt putL _; have hp := putOk_rec hok ho; refine ⟨?_, fun s => ?_⟩
  · unfold apE; rw [hd, Option.getD_some, if_pos hw, hp]
    rfl
  · unfold apS; rw [hd, Option.getD_some, if_pos hw, hp]
end Go.Proofs.YtadgbifmiooikaaX
namespace Go.Proofs.YtadgbifmiooikaaX
set_option linter.unusedVariables false
set_option linter.unusedSimpArgs false
open Go Go.RowKit Go.Proofs
def refRow : AV → List Value
  | .num n => [.int .i64 1, .int .i64 n, .string ⟨#[]⟩, .bool false]
  | .txt s => [.int .i64 2, .int .i64 0, .string s, .bool false]
  | .flg t => [.int .i64 3, .int .i64 0, .string ⟨#[]⟩, .bool t]
  | .oth _ => [.int .i64 0, .int .i64 0, .string ⟨#[]⟩, .bool false]
theorem refRow_len (a : AV) : (refRow a).length = 4 := by cases a <;> rfl
abbrev RdV (I : Imm) (v : Value) (av : List AV) : Prop := RdL I 4 v av.length (av.flatMap refRow)
abbrev GrowV (v : Value) (av : List AV) (Lv : Own) : Prop := Grow 999999 4 v av.length (av.flatMap refRow) Lv
theorem GrowV.push {v : Value} {av : List AV} {a : AV} {Lv : Own} (h : Grow 999999 4 v (av.length + 1) (av.flatMap refRow ++ refRow a) Lv) : GrowV v (av ++ [a]) Lv := by
  unfold GrowV; rw [List.length_append, List.flatMap_append, List.flatMap_cons, List.flatMap_nil, List.append_nil]; exact h
theorem RdV.row {av : List AV} {k : Nat} {a : AV} (ha : av[k]? = some a) : ∀ (j : Nat) (u : Value), (refRow a)[j]? = some u → (av.flatMap refRow)[k * 4 + j]? = some u := by
  intro j u hj
  have h2 : j < 4 := by have := (List.getElem?_eq_some_iff.1 hj).1; rwa [refRow_len] at this
  rw [getElem?_flat refRow_len av k j h2, ha]; exact hj
end Go.Proofs.YtadgbifmiooikaaX
namespace Go.Proofs.YtadgbifmiooikaaX
set_option linter.unusedVariables false
set_option linter.unusedSimpArgs false
open Go Go.RowKit Go.Proofs
theorem GrowR.one {I : Imm} {e : TypeId} {v u : Value} {b : List UInt8} {Lv : Own} (h : Grow e 1 v 1 [u] Lv) (hb : RdB I u b) : GrowR I e v [b] Lv := by
  refine ⟨[u], h, rfl, fun i x d h1 h2 => ?_⟩
  have hi : i = 0 := by have := (List.getElem?_eq_some_iff.1 h1).1; simp at this; exact this
  subst hi
  cases h1
  cases h2
  exact hb
theorem take_one {α : Type} {l : List α} {k : Nat} {a : α} (h : l[k]? = some a) : l.take (k + 1) = l.take k ++ [a] := by rw [List.take_add_one, h]; rfl
set_option maxRecDepth 100000 in
set_option maxHeartbeats 4000000 in
theorem records_own {w0 w : World} {I : Imm} {L : Own} {rows : List TRow} {next : Int} {bT : Nat} {Lt : Own} (hd : TbO I rows next bT Lt) (hst : St w0 w I (Lt ++ L)) (hz : rows.length ≤ 1000000) (hrow : ∀ r ∈ rows, ItOk r.2.1 ∧ encOk (itAV r.2.1) = true) :
    Calls Try.prog 54 #[.pointer (some ⟨bT, 0, none⟩)] w fun e w' => ∃ I' v' Lo, I.le I' ∧ e = .returned (.tuple #[v', .int .i64 0]) ∧ St w0 w' I' (Lo ++ (Lt ++ L)) ∧ GrowR I' 60 v' (recsA (absT rows) next) Lo := by
  have hd0 := hd; obtain ⟨bM, oM, rfl, hm, hnd, hrows, hnx⟩ := hd0; refine enter Try.func54 rfl (N := 50) rfl rfl ?_
  simp only [List.zipIdx_cons, List.zipIdx_nil, List.map_cons, List.map_nil, Nat.zero_add, Nat.reduceAdd]
  have hle := Imm.le.refl I; refine CW.seq ?_; refine CW.region ?_; refine RW.op1 rfl (runs_assign rfl) ?_; refine RW.op1 rfl (runs_assign rfl) ?_; refine RW.done ?_; refine AQ.next ?_; refine CW.seq ?_; refine CW.region ?_; refine RW.op1 rfl (runs_makeIface con9 rfl) ?_; refine RW.op1 rfl (runs_move rfl) ?_; refine RW.op1 rfl (runs_nilCheck rfl) ?_
  refine RW.op1 rfl (runs_fieldAddr0 rfl Try.underlying84 rfl ti3 (by decide)) ?_
  refine RW.op1 rfl (runs_load1 sc3 rfl (hst.cell_own (k := 0) rfl rfl)) ?_
  refine RW.op1 rfl (runs_makeIface con3 rfl) ?_; refine RW.opE rfl (runs_lit1R (xs := ([.txt nextS, .num next] : List AV).map AV.v) Try.underlying77 ti20 (by decide) rfl rfl rfl (by simp [AV.v, Value.oneCell']) hst) ?_; rintro u1 w ⟨I1, hI1, hstn, h1⟩; clear hst; have hst := hstn; clear hstn; replace hd := hd.mono hI1; replace hle := hle.trans hI1; have hA18 : RdA _ u1 [.txt nextS, .num next] := h1; refine RW.call rfl call33 rfl rfl (enc_spec hst hA18 (two_good (by decide) hnx) (show 2 ≤ 100000000000 by decide)) ?_; rintro e w ⟨J19, v19, hJ19, rfl, hstn, hv19⟩; clear hst; have hst := hstn; clear hstn; rw [two_ok (by decide) hnx] at hv19 ⊢; rw [if_pos rfl] at hv19; replace hd := hd.mono hJ19; replace h1 := h1.mono hJ19; replace hA18 := hA18.mono hJ19; replace hle := hle.trans hJ19; refine ⟨_, rfl, ?_⟩; refine RW.op1 rfl (runs_move rfl) ?_; refine RW.op1 rfl (runs_extract rfl rfl) ?_; refine RW.op1 rfl (runs_extract rfl rfl) ?_; refine RW.op1 rfl (runs_assign rfl) ?_; refine RW.op1 rfl (runs_assign rfl) ?_; refine RW.done ?_; refine AQ.next ?_; refine CW.seq ?_; refine CW.region ?_; refine RW.op1 rfl (runs_move rfl) ?_; refine RW.opE rfl (runs_lit1 (xs := [v19]) Try.underlying52 ti60 (by decide) rfl rfl rfl (by intro u hu; rw [List.mem_singleton.1 hu]; exact RdL.one hv19) hst) ?_; rintro u3 w ⟨Lv3, hstn, hg3⟩; clear hst; have hst := hstn; clear hstn
  replace hst := hst.perm (permAB (X := Lv3) (Y := [(bT, Obj.cells #[Value.map (some bM), Value.int IntKind.i64 next] 84), (bM, oM)])); have hgr := GrowR.one hg3 hv19; obtain ⟨vo, hvo⟩ : ∃ v, v = u3 := ⟨_, rfl⟩; obtain ⟨Lo, hLo⟩ : ∃ v, v = Lv3 := ⟨_, rfl⟩; subst hvo hLo; refine RW.op1 rfl (runs_assign rfl) ?_; refine RW.done ?_; refine AQ.next ?_; refine CW.seq ?_; refine CW.seq ?_; refine CW.region ?_; refine RW.op1 rfl (runs_move rfl) ?_; refine RW.call rfl call20 rfl rfl (ids_spec (L := Lo ++ L) hd hst hz) ?_; rintro e w ⟨J25, v25, hJ25, rfl, hstn, hv25⟩; clear hst; have hst := hstn; clear hstn; replace hgr := hgr.mono hJ25; replace hd := hd.mono hJ25; replace h1 := h1.mono hJ25; replace hA18 := hA18.mono hJ25; replace hv19 := hv19.mono hJ25; replace hle := hle.trans hJ25; refine ⟨_, rfl, ?_⟩; refine RW.op1 rfl (RdL.len Try.underlying22 rfl hv25) ?_; refine RW.op1 rfl (runs_move rfl) ?_; refine RW.done ?_; refine AQ.next ?_; refine CW.block ?_
  refine CW.loop (Nat × Imm × Value × Own) (fun x w => I.le x.2.1 ∧ TbO x.2.1 rows next bT [(bT, Obj.cells #[Value.map (some bM), Value.int IntKind.i64 next] 84), (bM, oM)] ∧ RdI x.2.1 v25 (keysUp rows) ∧ St w0 w x.2.1 ([(bT, Obj.cells #[Value.map (some bM), Value.int IntKind.i64 next] 84), (bM, oM)] ++ (x.2.2.2 ++ L)) ∧ GrowR x.2.1 60 x.2.2.1 ((recsA (absT rows) next).take (x.1 + 1)) x.2.2.2 ∧ x.1 ≤ (keysUp rows).length) (fun x => [(0, .pointer (some ⟨bT, 0, none⟩)), (6, x.2.2.1), (25, v25), (26, .int .i64 ((keysUp rows).length : Nat)), (27, .int .i64 (x.1 : Int))]) (fun x => (keysUp rows).length - x.1) ⟨(0, _, vo, Lo), ⟨hle, hd, hv25, hst, hgr, Nat.zero_le _⟩, ⟨rfl, rfl, rfl, rfl, rfl, trivial⟩⟩ ?_; clear hle hd hv25 hst hgr; rintro ⟨k, J, vo, Lo⟩ w ⟨hle, hd, hv25, hstn, hgr, hk⟩; dsimp only at hle hd hv25 hstn hgr hk ⊢; have hst := hstn; clear hstn; refine CW.seq ?_; refine CW.region ?_; refine RW.op1 rfl (runs_lss rfl rfl) ?_; refine RW.done ?_; refine AQ.next ?_; refine CW.seq ?_; refine CW.cond rfl (fun hc28 => ?_) (fun hc28 => ?_)
  · have hcb28 := hc28; try simp only [decide_eq_true_eq, decide_eq_false_iff_not] at hc28
    have hk1 : k < (keysUp rows).length := by omega
    obtain ⟨kk, hkk⟩ : ∃ kk, (keysUp rows)[k]? = some kk := ⟨_, List.getElem?_eq_getElem hk1⟩
    have hki : iat (keysUp rows) (k : Int) = kk := by unfold iat; rw [Int.toNat_natCast, List.getD_eq_getElem?_getD, hkk]; rfl
    have hkm := (keysUp_mem rows kk).1 (List.mem_of_getElem? hkk)
    obtain ⟨⟨it, vh⟩, hit⟩ : ∃ p, pget rows kk = some p := by
      cases h : pget rows kk with
      | none => exact absurd hkm (pget_none.1 h)
      | some p => exact ⟨p, rfl⟩
    have hrm := pget_mem hit; obtain ⟨hiok, hien⟩ := hrow _ hrm
    have hvh : RdH J vh it.heads := by
      obtain ⟨bM2, oM2, e2, hm2, hnd2, hrows2, hnx2⟩ := hd; exact (hrows2 _ hrm).2.1
    have hrl : (recsA (absT rows) next)[k + 1]? = some (recB it) := by
      unfold recsA; rw [List.getElem?_cons_succ, List.getElem?_map, absT_keysUp, hkk]
      show some (recB (itA (absT rows) kk)) = _
      unfold itA; rw [absT_get, hit]
      rfl
    have hzz : (keysUp rows).length ≤ 1000000 := by rw [keysUp_len]; exact hz
    have hbl : ((recsA (absT rows) next).take (k + 1)).length ≤ 1000001 := by rw [List.length_take]; omega
    refine CW.skip ?_; refine AQ.next ?_; refine CW.seq ?_; refine CW.block ?_; refine CW.seq ?_; refine CW.region ?_; refine RW.op1 rfl (RdL.indexAddr Try.underlying22 ti3 (by decide) rfl rfl hv25 (by omega)) ?_; refine RW.op1 rfl (runs_load1 sc3 rfl (hst.cell_imm (RdI.at hv25 (by omega) (by omega)))) ?_; rw [hki]; refine RW.op1 rfl (runs_assign rfl) ?_; refine RW.done ?_; refine AQ.next ?_; refine CW.seq ?_; refine CW.region ?_; refine RW.op1 rfl (runs_move rfl) ?_; refine RW.op1 rfl (runs_nilCheck rfl) ?_
    refine RW.op1 rfl (runs_fieldAddr0 rfl Try.underlying84 rfl ti82 (by decide)) ?_
    refine RW.op1 rfl (runs_load1 sc82 rfl (hst.cell_own (k := 0) rfl rfl)) ?_
    refine RW.op1 rfl (runs_move rfl) ?_; refine RW.op1 rfl (runs_lookup (i := 1) (keyI Try.underlying3) Try.underlying82 ti38 rfl rfl hst rfl hm) ?_; rw [mget_t, hit]; refine RW.call rfl call16 rfl rfl (putrec_spec hst hvh hiok) ?_; rintro e w ⟨J38, v38, hJ38, rfl, hstn, hv38⟩; clear hst; have hst := hstn; clear hstn; rw [hien] at hv38 ⊢; rw [if_pos rfl] at hv38; replace hgr := hgr.mono hJ38; replace hd := hd.mono hJ38; replace hv25 := hv25.mono hJ38; replace hle := hle.trans hJ38; refine ⟨_, rfl, ?_⟩; refine RW.op1 rfl (runs_move rfl) ?_; refine RW.op1 rfl (runs_extract rfl rfl) ?_; refine RW.op1 rfl (runs_extract rfl rfl) ?_; refine RW.op1 rfl (runs_assign rfl) ?_; refine RW.op1 rfl (runs_assign rfl) ?_; refine RW.done ?_; refine AQ.next ?_; refine CW.seq ?_; refine CW.seq ?_; refine CW.region ?_; refine RW.op1 rfl (runs_move rfl) ?_; refine RW.op1 rfl (runs_neI rfl rfl) ?_; refine RW.done ?_; refine AQ.next ?_; refine CW.cond rfl (fun hc => absurd hc (by decide)) (fun hc => ?_); refine CW.skip ?_; refine AQ.next ?_; refine CW.region ?_; refine RW.op1 rfl (runs_move rfl) ?_; refine RW.op1 rfl (runs_move rfl) ?_; refine RW.opE rfl (runs_lit1R (xs := [v38]) Try.underlying52 ti60 (by decide) rfl rfl rfl (by intro u hu; rw [List.mem_singleton.1 hu]; exact RdL.one hv38) hst) ?_; rintro u6 w ⟨I6, hI6, hstn, h6⟩; clear hst; have hst := hstn; clear hstn; replace hd := hd.mono hI6; replace hv25 := hv25.mono hI6; replace hv38 := hv38.mono hI6; replace hle := hle.trans hI6
    replace hgr := hgr.mono hI6; have hD : RdL _ 1 u6 1 [v38] := h6; replace hst := hst.perm (permAB (X := [(bT, Obj.cells #[Value.map (some bM), Value.int IntKind.i64 next] 84), (bM, oM)]) (Y := Lo)); refine RW.opE rfl (runs_appendRow Try.underlying52 ti60 rfl rfl rfl hst hgr hD hv38 (by omega) (by unfold maxLen; omega)) ?_; rintro uN w ⟨LvN, hstn, hgN⟩; clear hst; have hst := hstn; clear hstn; replace hst := hst.perm (permAB (X := LvN) (Y := [(bT, Obj.cells #[Value.map (some bM), Value.int IntKind.i64 next] 84), (bM, oM)])); refine RW.op1 rfl (runs_assign rfl) ?_; refine RW.done ?_; refine AQ.block_normal ?_; refine AQ.next ?_; refine CW.region ?_; refine RW.op1 rfl (runs_add rfl rfl (by omega)) ?_; refine RW.op1 rfl (runs_move rfl) ?_; refine RW.done ?_; exact AQ.again (x := (k, J, vo, Lo)) (k + 1, _, uN, LvN) ⟨hle, hd, hv25, hst, by dsimp only; rw [take_one hrl]; exact hgN, by dsimp only; omega⟩ ⟨rfl, rfl, rfl, rfl, rfl, trivial⟩ (by dsimp only; omega)
  · have hcb28 := hc28; try simp only [decide_eq_true_eq, decide_eq_false_iff_not] at hc28
    have hke : k = (keysUp rows).length := by omega
    refine CW.exit ?_; refine AQ.past_exit ?_; refine AQ.past_exit ?_; refine AQ.block_hit ?_; refine AQ.next ?_; refine CW.seq ?_; refine CW.region ?_; refine RW.op1 rfl (runs_move rfl) ?_; refine RW.op1 rfl (runs_assign rfl) ?_; refine RW.op1 rfl (runs_assign rfl) ?_; refine RW.done ?_; refine AQ.next ?_; refine CW.ret ?_; refine AQ.ret2 rfl rfl rfl ?_; have hfull : (recsA (absT rows) next).take (k + 1) = recsA (absT rows) next := List.take_of_length_le (by rw [recsA_len]; unfold absT; rw [List.length_map, hke, keysUp_len]; omega); rw [hfull] at hgr; exact ⟨_, _, _, hle, rfl, hst.perm (permAB (X := [(bT, Obj.cells #[Value.map (some bM), Value.int IntKind.i64 next] 84), (bM, oM)]) (Y := Lo)), hgr⟩
theorem trecs_spec {w0 w : World} {I : Imm} {L : Own} {rows : List TRow} {next : Int} {bT : Nat} {Lt : Own} (hd : TbO I rows next bT Lt) (hst : St w0 w I (Lt ++ L)) (hz : rows.length ≤ 1000000) (hrow : ∀ r ∈ rows, ItOk r.2.1 ∧ encOk (itAV r.2.1) = true) :
    Calls Try.prog 54 #[.pointer (some ⟨bT, 0, none⟩)] w fun e w' => ∃ I' v' vs, I.le I' ∧ e = .returned (.tuple #[v', .int .i64 0]) ∧ St w0 w' I' (Lt ++ L) ∧ RdR I' v' vs (recsA (absT rows) next) := by
  refine (records_own hd hst hz hrow).mono ?_; rintro e w' ⟨I', v', Lo, h1, rfl, h2, h3⟩; obtain ⟨J9, vs, hJ9, hst9, hr9⟩ := h3.freeze h2; exact ⟨J9, v', vs, h1.trans hJ9, rfl, hst9, hr9⟩
end Go.Proofs.YtadgbifmiooikaaX
namespace Go.Proofs.YtadgbifmiooikaaX
set_option linter.unusedVariables false
set_option linter.unusedSimpArgs false
open Go Go.RowKit Go.Proofs
theorem turn_any {w0 w : World} {I : Imm} {L Ld : Own} {d : Value} {S : DS} {lb : Nat} {G : LG} {bs bss : List (List UInt8)} (hd : DiskO d S Ld) (hst : St w0 w I ((lb, .cells (logV d G).toArray 74) :: (Ld ++ L))) (hli : LI S G bs) {v : Value} {vs : List Value} (hv : RdR I v vs bss) (hl : bss.length ≤ 1000) (hn : ∀ b ∈ bss, needN b.length ≤ 255) (hx : G.nx + (bss.length : Nat) ≤ 16777215) (hs : G.s.n < 16777214) :
    Calls Try.prog 55 #[.pointer (some ⟨lb, 0, none⟩), v] w fun e w' => ∃ I' Ld' S' G' er, Imm.le I I' ∧ e = .returned (.int .i64 er) ∧ St w0 w' I' ((lb, .cells (logV d G').toArray 74) :: (Ld' ++ L)) ∧ DiskO d S' Ld' ∧ (S.left = -1 → er ≠ 8) ∧
      ((er = 5 ∧ S' = S ∧ G' = G ∧ 256 < needS bss) ∨ (er = 0 ∧ needS bss ≤ 256 ∧ LI S' G' bss ∧ G' = ⟨turnS G, beginR (1 - G.s.h) + (needS bss : Nat), G.nx + (bss.length : Nat), 0⟩ ∧ (S.left = -1 → S'.left = -1)) ∨ (er = 8 ∧ S'.down = true ∧ ∀ ks, DI (crashR S' ks).secs G.s bs G.at_ G.nx)) := by
  have hrg := hli.di.rng; have hn1 := hli.di.n1
  refine (turn_log hd hst hv ⟨hl, fun b hb => by have := hn b hb; unfold needN at this; omega⟩ (by omega) (by omega) (by omega) (by omega) (by rw [hli.pn]; exact Nat.zero_le _)).mono fun e w' ⟨I', Ld', S', G', er, h1, h2, h3, h4, h5⟩ => ?_
  rcases turn_li hli hn hx hs h4.ok h5 with ⟨rfl, g1, g2, g⟩ | ⟨rfl, g1, g2, g3, g4⟩ | ⟨rfl, g1, g2, _, g4⟩
  · exact ⟨I', Ld', S', G', 5, h1, h2, h3, h4, fun _ => by decide, .inl ⟨rfl, g1, g2, g⟩⟩
  · exact ⟨I', Ld', S', G', 0, h1, h2, h3, h4, fun _ => by decide, .inr (.inl ⟨rfl, g1, g2, g3, g4⟩)⟩
  · exact ⟨I', Ld', S', G', 8, h1, h2, h3, h4, fun h => absurd h g1, .inr (.inr ⟨rfl, g2, g4⟩)⟩
theorem append_any {w0 w : World} {I : Imm} {L Ld : Own} {d : Value} {S : DS} {lb : Nat} {G : LG} {bs : List (List UInt8)} (hd : DiskO d S Ld) (hst : St w0 w I ((lb, .cells (logV d G).toArray 74) :: (Ld ++ L))) (hli : LI S G bs) {vb : Value} {b : List UInt8} (hb : RdB I vb b) (hn : needN b.length ≤ 255) (hx : G.nx < 16777215) :
    Calls Try.prog 34 #[.pointer (some ⟨lb, 0, none⟩), vb] w fun e w' => ∃ I' Ld' S' G' er, Imm.le I I' ∧ e = .returned (.int .i64 er) ∧ St w0 w' I' ((lb, .cells (logV d G').toArray 74) :: (Ld' ++ L)) ∧ DiskO d S' Ld' ∧ (S.left = -1 → er ≠ 8) ∧
      ((er = 5 ∧ S' = S ∧ G' = G ∧ roomR G < (needN b.length : Nat)) ∨ (er = 0 ∧ LI S' G' (bs ++ [b]) ∧ G' = G.to (G.at_ + (needN b.length : Nat)) (G.nx + 1) ∧ (S.left = -1 → S'.left = -1)) ∨ (er = 8 ∧ S'.down = true ∧ ∀ ks, DI (crashR S' ks).secs G.s bs G.at_ G.nx)) := by
  have hrg := hli.di.rng
  refine (append_log hd hst hb (by unfold needN at hn; omega) (by omega) (by omega) (by omega) (by rw [hli.pn]; exact Nat.zero_le _)).mono fun e w' ⟨I', Ld', S', G', er, h1, h2, h3, h4, h5⟩ => ?_
  rcases append_li hli hn hx h4.ok h5 with ⟨rfl, g1, g2, g⟩ | ⟨rfl, g1, g2, g3, g4⟩ | ⟨rfl, g1, g2, _, g4⟩
  · exact ⟨I', Ld', S', G', 5, h1, h2, h3, h4, fun _ => by decide, .inl ⟨rfl, g1, g2, g⟩⟩
  · exact ⟨I', Ld', S', G', 0, h1, h2, h3, h4, fun _ => by decide, .inr (.inl ⟨rfl, g2, g3, g4⟩)⟩
  · exact ⟨I', Ld', S', G', 8, h1, h2, h3, h4, fun h => absurd h g1, .inr (.inr ⟨rfl, g2, g4⟩)⟩
theorem permS1 {α : Type} {a : α} {X Y Q : List α} : (a :: (X ++ (Y ++ Q))).Perm (Y ++ (a :: (X ++ Q))) := perm_out a X Y Q
theorem permS2 {α : Type} {a b : α} {X Y Q : List α} : (a :: b :: (X ++ (Y ++ Q))).Perm (Y ++ (a :: b :: (X ++ Q))) := perm_out2 a b X Y Q
theorem permS3 {α : Type} {a b : α} {X Q : List α} : (a :: b :: (X ++ Q)).Perm (b :: (X ++ (a :: Q))) := (List.Perm.swap _ _ _).trans (List.Perm.cons _ List.perm_middle.symm)
set_option maxRecDepth 100000 in
set_option maxHeartbeats 4000000 in
theorem made_spec {w0 w : World} {I : Imm} {L : Own} (hst : St w0 w I L) {v : Value} {vs : List Value} {bss : List (List UInt8)} (hr : RdR I v vs bss) (hok : ∀ b ∈ bss, RecOk b) (hbn : bss.length ≤ 16777216) :
    Calls Try.prog 15 #[v] w fun e w' => ∃ I' bT rows Lt, I.le I' ∧ e = .returned (.tuple #[.pointer (some ⟨bT, 0, none⟩), .int .i64 0]) ∧ St w0 w' I' (Lt ++ L) ∧ TbO I' rows (playS bss).2 bT Lt ∧ absT rows = (playS bss).1 := by
  have hvn : vs.length ≤ 16777216 := by rw [hr.2.1]; exact hbn
  refine enter Try.func15 rfl (N := 23) rfl rfl ?_
  simp only [List.zipIdx_cons, List.zipIdx_nil, List.map_cons, List.map_nil, Nat.zero_add, Nat.reduceAdd]
  have hle := Imm.le.refl I; refine CW.seq ?_; refine CW.region ?_; refine RW.op1 rfl (runs_assign rfl) ?_; refine RW.op1 rfl (runs_assign rfl) ?_; refine RW.done ?_; refine AQ.next ?_; refine CW.seq ?_; refine CW.region ?_; refine RW.call rfl call29 rfl rfl (tnew_spec hst) ?_; rintro e w ⟨bT, Lt, rfl, hstn, hd⟩; clear hst; have hst := hstn; clear hstn; refine ⟨_, rfl, ?_⟩; refine RW.op1 rfl (runs_assign rfl) ?_; refine RW.done ?_; refine AQ.next ?_; refine CW.seq ?_; refine CW.seq ?_; refine CW.region ?_; refine RW.op1 rfl (runs_move rfl) ?_; refine RW.op1 rfl (RdL.len Try.underlying52 rfl hr.1) ?_; refine RW.op1 rfl (runs_move rfl) ?_; refine RW.done ?_; refine AQ.next ?_; refine CW.block ?_; refine CW.loop (Nat × Imm × List TRow × Int × Own) (fun x w => I.le x.2.1 ∧ RdR x.2.1 v vs bss ∧ TbO x.2.1 x.2.2.1 x.2.2.2.1 bT x.2.2.2.2 ∧ (absT x.2.2.1, x.2.2.2.1) = playS (bss.take x.1) ∧ x.1 ≤ vs.length ∧ St w0 w x.2.1 (x.2.2.2.2 ++ L)) (fun x => [(4, .pointer (some ⟨bT, 0, none⟩)), (9, v), (10, .int .i64 (vs.length : Nat)), (11, .int .i64 (x.1 : Int))]) (fun x => vs.length - x.1) ⟨(0, _, [], 1, Lt), ⟨hle, hr, hd, rfl, Nat.zero_le _, hst⟩, ⟨rfl, rfl, rfl, rfl, trivial⟩⟩ ?_; clear hle hr hd hst; rintro ⟨j, J2, rows2, nx2, Lu2⟩ w ⟨hle, hr, hd, hj, hjl, hstn⟩; dsimp only at hle hr hd hj hjl hstn ⊢; have hst := hstn; clear hstn; refine CW.seq ?_; refine CW.region ?_; refine RW.op1 rfl (runs_lss rfl rfl) ?_; refine RW.done ?_; refine AQ.next ?_; refine CW.seq ?_
  refine CW.cond rfl (fun hc12 => ?_) (fun hc12 => ?_)
  · have hcb12 := hc12; try simp only [decide_eq_true_eq, decide_eq_false_iff_not] at hc12
    have hj1 : j < vs.length := by omega
    have hjr : j < bss.length := by rw [← hr.2.1]; exact hj1
    obtain ⟨b, hb⟩ : ∃ b, bss[j]? = some b := ⟨_, List.getElem?_eq_getElem hjr⟩; obtain ⟨ho1, ho2⟩ := hok b (List.mem_of_getElem? hb)
    have hgd : bss.getD j [] = b := by rw [List.getD_eq_getElem?_getD, hb]; rfl
    have hrow := RdR.row hr hj1; rw [hgd] at hrow; refine CW.skip ?_; refine AQ.next ?_; refine CW.seq ?_; refine CW.block ?_; refine CW.seq ?_; refine CW.region ?_; refine RW.op1 rfl (RdL.indexAddr Try.underlying52 ti60 (by decide) rfl rfl hr.1 (by omega)) ?_; refine RW.op1 rfl (runs_load1 sc60 rfl (hst.cell_imm (RdR.at hr (by omega) (by omega)))) ?_; rw [Int.toNat_natCast]; refine RW.op1 rfl (runs_assign rfl) ?_; refine RW.done ?_; refine AQ.next ?_; refine CW.seq ?_; refine CW.region ?_; refine RW.op1 rfl (runs_move rfl) ?_; refine RW.op1 rfl (runs_move rfl) ?_; refine RW.call rfl call30 rfl rfl (apply_spec hd hst hrow (by omega)) ?_; rintro e w ⟨J17, rows3, nx3, Lt3, er, hJ17, rfl, hstn, hd3, hap⟩; clear hst; have hst := hstn; clear hstn; obtain ⟨he, hab⟩ := Ap_abs hap; rw [ho1] at he; subst he; replace hr := hr.mono hJ17; replace hd := hd.mono hJ17; replace hle := hle.trans hJ17; refine ⟨_, rfl, ?_⟩; refine RW.op1 rfl (runs_assign rfl) ?_; refine RW.done ?_; refine AQ.next ?_; refine CW.seq ?_; refine CW.region ?_; refine RW.op1 rfl (runs_move rfl) ?_; refine RW.op1 rfl (runs_neI rfl rfl) ?_; refine RW.done ?_; refine AQ.next ?_; refine CW.cond rfl (fun hc => absurd hc (by decide)) (fun hc => ?_); refine CW.skip ?_; refine AQ.block_normal ?_; refine AQ.next ?_; refine CW.region ?_; refine RW.op1 rfl (runs_add rfl rfl (by omega)) ?_; refine RW.op1 rfl (runs_move rfl) ?_; refine RW.done ?_
    exact AQ.again (x := (j, J2, rows2, nx2, Lu2)) (j + 1, _, rows3, nx3, Lt3) ⟨hle, hr, hd3, by dsimp only; rw [List.take_add_one, hb]; show _ = playS (_ ++ [b]); rw [playS_add, ← hj, hab], by dsimp only; omega, hst⟩ ⟨rfl, rfl, rfl, rfl, trivial⟩ (by dsimp only; omega)
  · have hcb12 := hc12; try simp only [decide_eq_true_eq, decide_eq_false_iff_not] at hc12
    have hje : j = vs.length := by omega
    rw [hje, hr.2.1, List.take_length] at hj; refine CW.exit ?_; refine AQ.past_exit ?_; refine AQ.past_exit ?_; refine AQ.block_hit ?_; refine AQ.next ?_; refine CW.seq ?_; refine CW.region ?_; refine RW.op1 rfl (runs_move rfl) ?_; refine RW.op1 rfl (runs_assign rfl) ?_; refine RW.op1 rfl (runs_assign rfl) ?_; refine RW.done ?_; refine AQ.next ?_; refine CW.ret ?_; refine AQ.ret2 rfl rfl rfl ?_; have e1 : nx2 = (playS bss).2 := congrArg Prod.snd hj; have e2 : absT rows2 = (playS bss).1 := congrArg Prod.fst hj; rw [e1] at hd; exact ⟨_, bT, rows2, Lu2, hle, rfl, hst, hd, e2⟩
set_option maxRecDepth 100000 in
set_option maxHeartbeats 4000000 in
theorem sopen_up {w0 w : World} {I : Imm} {L Ld : Own} {d : Value} {S : DS} {s : Slot} {bs : List (List UInt8)} {a nx : Int} (hd : DiskO d S Ld) (hst : St w0 w I (Ld ++ L)) (hu : Up S) (hp : S.pend = []) (hdi : DI S.secs s bs a nx) (hb : s.n < 16777215 ∧ s.e < 65535) {A : List (Int × It)} {next : Int} (hsi : SI bs A next) (hti : TbI A next) (hnx : nx ≤ 16777216) :
    Calls Try.prog 6 #[d] w fun e w' => ∃ I' Ld' lb bT bS rows S' Lt, I.le I' ∧ e = .returned (.tuple #[.pointer (some ⟨bS, 0, none⟩), .int .i64 0]) ∧ St w0 w' I' ((bS, Obj.cells #[.pointer (some ⟨lb, 0, none⟩), .pointer (some ⟨bT, 0, none⟩)] 59) :: (lb, Obj.cells (logV d ⟨s.up, a, nx, 0⟩).toArray 74) :: (Ld' ++ (Lt ++ L))) ∧ DiskO d S' Ld' ∧ LI S' ⟨s.up, a, nx, 0⟩ bs ∧ Up S' ∧ TbO I' rows next bT Lt ∧ SEq (absT rows, next) (A, next) ∧ TbI (absT rows) next ∧ SI bs (absT rows) next := by
  refine enter Try.func6 rfl (N := 29) rfl rfl ?_
  simp only [List.zipIdx_cons, List.zipIdx_nil, List.map_cons, List.map_nil, Nat.zero_add, Nat.reduceAdd]
  have hle := Imm.le.refl I; refine CW.seq ?_; refine CW.region ?_; refine RW.op1 rfl (runs_assign rfl) ?_; refine RW.op1 rfl (runs_assign rfl) ?_; refine RW.done ?_; refine AQ.next ?_; refine CW.seq ?_; refine CW.region ?_; refine RW.op1 rfl (runs_move rfl) ?_; refine RW.call rfl call14 rfl rfl (open_up hd hst hu hp hdi hb) ?_; rintro e w ⟨J10, Ld1, lb, y, vs, S1, hJ10, rfl, hstn, hd1, hr, hli, hu1⟩; clear hst; have hst := hstn; clear hstn; replace hle := hle.trans hJ10; refine ⟨_, rfl, ?_⟩; refine RW.op1 rfl (runs_move rfl) ?_; refine RW.op1 rfl (runs_extract rfl rfl) ?_; refine RW.op1 rfl (runs_extract rfl rfl) ?_; refine RW.op1 rfl (runs_extract rfl rfl) ?_; refine RW.op1 rfl (runs_assign rfl) ?_; refine RW.op1 rfl (runs_assign rfl) ?_; refine RW.op1 rfl (runs_assign rfl) ?_; refine RW.done ?_; refine AQ.next ?_; refine CW.seq ?_; refine CW.seq ?_; refine CW.region ?_; refine RW.op1 rfl (runs_move rfl) ?_; refine RW.op1 rfl (runs_neI rfl rfl) ?_; refine RW.done ?_; refine AQ.next ?_; refine CW.cond rfl (fun hc => absurd hc (by decide)) (fun hc => ?_); refine CW.skip ?_; refine AQ.next ?_; refine CW.seq ?_; refine CW.region ?_; refine RW.op1 rfl (runs_move rfl) ?_; refine RW.call rfl call15 rfl rfl (made_spec hst hr hsi.ok (by have := hdi.rng; omega)) ?_; rintro e w ⟨J19, bT, rows, Lt, hJ19, rfl, hstn, hdt, hab⟩; clear hst; have hst := hstn; clear hstn; have hse := hsi.eq; have e2 : (playS bs).2 = next := hse.1; rw [e2] at hdt; replace hr := hr.mono hJ19
  replace hle := hle.trans hJ19; refine ⟨_, rfl, ?_⟩; refine RW.op1 rfl (runs_move rfl) ?_; refine RW.op1 rfl (runs_extract rfl rfl) ?_; refine RW.op1 rfl (runs_extract rfl rfl) ?_; refine RW.op1 rfl (runs_assign rfl) ?_; refine RW.op1 rfl (runs_assign rfl) ?_; refine RW.done ?_; refine AQ.next ?_; refine CW.seq ?_; refine CW.seq ?_; refine CW.region ?_; refine RW.op1 rfl (runs_move rfl) ?_; refine RW.op1 rfl (runs_neI rfl rfl) ?_; refine RW.done ?_; refine AQ.next ?_; refine CW.cond rfl (fun hc => absurd hc (by decide)) (fun hc => ?_); refine CW.skip ?_; refine AQ.next ?_; refine CW.seq ?_; refine CW.region ?_; refine RW.op1 rfl (runs_move rfl) ?_; refine RW.op1 rfl (runs_move rfl) ?_; refine RW.op1 rfl (runs_buildF (cells := [_, _]) bz59 rfl rfl rfl rfl rfl) ?_; refine RW.opE rfl (runs_box rfl hst) ?_; rintro _ w ⟨bS, rfl, hstn⟩; clear hst; have hst := hstn; clear hstn; refine RW.op1 rfl (runs_assign rfl) ?_; refine RW.op1 rfl (runs_assign rfl) ?_; refine RW.done ?_; refine AQ.next ?_; refine CW.ret ?_; refine AQ.ret2 rfl rfl rfl ?_; have hseq : SEq (absT rows, next) (A, next) := ⟨rfl, fun k => by have := hse.2 k; rw [← hab] at this; exact this⟩
  have hnd : Nd (absT rows, next) := by show ((absT rows).map Prod.fst).Nodup; rw [hab]; exact playS_nd bs
  have ht2 := hti.of (s := (absT rows, next)) hseq hnd; exact ⟨J19, Ld1, lb, bT, bS, rows, S1, Lt, hle, rfl, hst.perm (List.Perm.cons _ permS1.symm), hd1, hli, hu1, hdt, hseq, ht2, hsi.to hseq.symm⟩
set_option maxRecDepth 100000 in
set_option maxHeartbeats 1000000 in
theorem sopen_none {w0 w : World} {I : Imm} {L Ld : Own} {d : Value} (hd : DiskO d newL Ld) (hst : St w0 w I (Ld ++ L)) :
    Calls Try.prog 6 #[d] w fun e w' => ∃ I' Ld', I.le I' ∧ e = .returned (.tuple #[.pointer none, .int .i64 3]) ∧ St w0 w' I' (Ld' ++ L) ∧ DiskO d newL Ld' := by
  refine enter Try.func6 rfl (N := 29) rfl rfl ?_
  simp only [List.zipIdx_cons, List.zipIdx_nil, List.map_cons, List.map_nil, Nat.zero_add, Nat.reduceAdd]
  have hle := Imm.le.refl I; refine CW.seq ?_; refine CW.region ?_; refine RW.op1 rfl (runs_assign rfl) ?_; refine RW.op1 rfl (runs_assign rfl) ?_; refine RW.done ?_; refine AQ.next ?_; refine CW.seq ?_; refine CW.region ?_; refine RW.op1 rfl (runs_move rfl) ?_; refine RW.call rfl call14 rfl rfl (open_none hd hst) ?_; rintro e w ⟨J10, Ld1, hJ10, rfl, hstn, hd1⟩; clear hst; have hst := hstn; clear hstn; replace hle := hle.trans hJ10; refine ⟨_, rfl, ?_⟩; refine RW.op1 rfl (runs_move rfl) ?_; refine RW.op1 rfl (runs_extract rfl rfl) ?_; refine RW.op1 rfl (runs_extract rfl rfl) ?_; refine RW.op1 rfl (runs_extract rfl rfl) ?_; refine RW.op1 rfl (runs_assign rfl) ?_; refine RW.op1 rfl (runs_assign rfl) ?_; refine RW.op1 rfl (runs_assign rfl) ?_; refine RW.done ?_; refine AQ.next ?_; refine CW.seq ?_; refine CW.seq ?_; refine CW.region ?_; refine RW.op1 rfl (runs_move rfl) ?_; refine RW.op1 rfl (runs_neI rfl rfl) ?_; refine RW.done ?_; refine AQ.next ?_; refine CW.cond rfl (fun hc => ?_) (fun hc => absurd hc (by decide)); refine CW.seq ?_; refine CW.region ?_; refine RW.op1 rfl (runs_move rfl) ?_; refine RW.op1 rfl (runs_assign rfl) ?_; refine RW.op1 rfl (runs_assign rfl) ?_; refine RW.done ?_; refine AQ.next ?_; refine CW.ret ?_; refine AQ.past_ret ?_; refine AQ.ret2 rfl rfl rfl ?_; exact ⟨_, Ld1, hle, rfl, hst, hd1⟩
structure Room (A : List (Int × It)) (next : Int) (b : List UInt8) : Prop where
  b0 : RecOk b
  t : TbI (apS (A, next) b).1 (apS (A, next) b).2
  s : needS (recsA (turnA A next b).1 (turnA A next b).2) ≤ 256
  n : ∀ x ∈ recsA (turnA A next b).1 (turnA A next b).2, needN x.length ≤ 255
  l : (recsA (turnA A next b).1 (turnA A next b).2).length ≤ 1000
  r : A.length ≤ 1000
  bn : needN b.length ≤ 255
def GB (c : Int) (G : LG) : Prop := G.s.n ≤ c ∧ G.s.e ≤ c ∧ G.nx ≤ 1001 * c
theorem GB.mono {c c' : Int} {G : LG} (h : GB c G) (h1 : c ≤ c') : GB c' G := by unfold GB at *; omega
set_option maxRecDepth 100000 in
set_option maxHeartbeats 4000000 in
theorem turned_spec {w0 w : World} {I : Imm} {L Ld Lt : Own} {d : Value} {S : DS} {lb bT bS : Nat} {G : LG} {bs : List (List UInt8)} {rows : List TRow} {next : Int} (hd : DiskO d S Ld) (hst : St w0 w I ((bS, Obj.cells #[.pointer (some ⟨lb, 0, none⟩), .pointer (some ⟨bT, 0, none⟩)] 59) :: (lb, Obj.cells (logV d G).toArray 74) :: (Ld ++ (Lt ++ L)))) (hli : LI S G bs) (hdt : TbO I rows next bT Lt) (hti : TbI (absT rows) next) {c : Int} (hcc : c ≤ 10000) (hg : GB c G) {vb : Value} {b : List UInt8} (hb : RdB I vb b) (hrm : Room (absT rows) next b) :
    Calls Try.prog 35 #[.pointer (some ⟨bS, 0, none⟩), vb] w fun e w' => ∃ I' Ld' S' G' er, I.le I' ∧ e = .returned (.int .i64 er) ∧ St w0 w' I' ((bS, Obj.cells #[.pointer (some ⟨lb, 0, none⟩), .pointer (some ⟨bT, 0, none⟩)] 59) :: (lb, Obj.cells (logV d G').toArray 74) :: (Ld' ++ (Lt ++ L))) ∧ DiskO d S' Ld' ∧ (S.left = -1 → er ≠ 8) ∧ ((er = 0 ∧ LI S' G' (recsA (turnA (absT rows) next b).1 (turnA (absT rows) next b).2) ∧ GB (c + 1) G' ∧ (S.left = -1 → S'.left = -1)) ∨ (er = 8 ∧ S'.down = true ∧ ∀ ks, DI (crashR S' ks).secs G.s bs G.at_ G.nx)) := by
  obtain ⟨g1, g2, g3⟩ := hg; obtain ⟨tt1, tt2⟩ := turn_ok hti hrm.t
  have hrl : rows.length ≤ 1000 := by have := hrm.r; unfold absT at this; rw [List.length_map] at this; exact this
  refine enter Try.func35 rfl (N := 44) rfl rfl ?_
  simp only [List.zipIdx_cons, List.zipIdx_nil, List.map_cons, List.map_nil, Nat.zero_add, Nat.reduceAdd]
  have hle := Imm.le.refl I; refine CW.seq ?_; refine CW.region ?_; refine RW.op1 rfl (runs_assign rfl) ?_; refine RW.done ?_; refine AQ.next ?_; refine CW.seq ?_; refine CW.region ?_; refine RW.op1 rfl (runs_move rfl) ?_; refine RW.op1 rfl (runs_nilCheck rfl) ?_
  refine RW.op1 rfl (runs_fieldAddr0 rfl Try.underlying59 rfl ti55 (by decide)) ?_
  refine RW.op1 rfl (runs_load1 sc55 rfl (hst.cell_own (k := 0) rfl rfl)) ?_
  refine RW.call rfl call54 rfl rfl (records_own hdt (hst.perm permS2) (by omega) hti.rows) ?_; rintro e w ⟨J13, v13, Lo, hJ13, rfl, hstn, hgr⟩; clear hst; have hst := hstn; clear hstn; replace hdt := hdt.mono hJ13; replace hb := hb.mono hJ13; replace hle := hle.trans hJ13; refine ⟨_, rfl, ?_⟩; refine RW.op1 rfl (runs_move rfl) ?_; refine RW.op1 rfl (runs_extract rfl rfl) ?_; refine RW.op1 rfl (runs_extract rfl rfl) ?_; refine RW.op1 rfl (runs_assign rfl) ?_; refine RW.op1 rfl (runs_assign rfl) ?_; refine RW.done ?_; refine AQ.next ?_; refine CW.seq ?_; refine CW.seq ?_; refine CW.region ?_; refine RW.op1 rfl (runs_move rfl) ?_; refine RW.op1 rfl (runs_neI rfl rfl) ?_; refine RW.done ?_; refine AQ.next ?_; refine CW.cond rfl (fun hc => absurd hc (by decide)) (fun hc => ?_); refine CW.skip ?_; refine AQ.next ?_; refine CW.seq ?_; refine CW.region ?_; refine RW.op1 rfl (runs_move rfl) ?_; refine RW.op1 rfl (runs_move rfl) ?_; refine RW.opE rfl (runs_lit1R (xs := [vb]) Try.underlying52 ti60 (by decide) rfl rfl rfl (by intro u hu; rw [List.mem_singleton.1 hu]; exact RdL.one hb) hst) ?_; rintro u22 w ⟨I22, hI22, hstn, hD⟩; clear hst; have hst := hstn; clear hstn; replace hgr := hgr.mono hI22; replace hdt := hdt.mono hI22; replace hb : RdB I22 vb b := RdL.mono hI22 hb; replace hle := hle.trans hI22
  refine RW.opE rfl (runs_appendRow Try.underlying52 ti60 rfl rfl rfl hst hgr hD hb (by rw [recsA_len]; unfold absT; rw [List.length_map]; omega) (by rw [recsA_len]; unfold absT maxLen; rw [List.length_map]; omega)) ?_; rintro uN w ⟨LvN, hstn, hgN⟩; clear hst; have hst := hstn; clear hstn; obtain ⟨J23, vs, hJ23, hst23, hrr⟩ := hgN.freeze hst; clear hst; have hst := hst23; clear hst23; replace hdt := hdt.mono hJ23; replace hb : RdB J23 vb b := RdL.mono hJ23 hb; replace hle := hle.trans hJ23; refine RW.call rfl call15 rfl rfl (made_spec hst hrr (fun x hx => (List.mem_append.1 hx).elim ((play_recs hti).2 x) (fun h => by rw [List.mem_singleton.1 h]; exact hrm.b0)) (by rw [List.length_append, recsA_len, List.length_singleton]; have := hrm.r; omega)) ?_; rintro e w ⟨J24, bU, rows2, Lu, hJ24, rfl, hstn, hdu, hab⟩; clear hst; have hst := hstn; clear hstn
  have hpt : playS (recsA (absT rows) next ++ [b]) = turnA (absT rows) next b := by rw [playS_add, (play_recs hti).1]; rfl
  rw [hpt] at hdu hab
  have hul : rows2.length ≤ 1000 := by
    have h1 : (absT rows2).length = rows2.length := by unfold absT; rw [List.length_map]
    rw [hab] at h1; have h2 := hrm.l; rw [recsA_len] at h2; omega
  replace hdt := hdt.mono hJ24; replace hb := hb.mono hJ24; replace hle := hle.trans hJ24; refine ⟨_, rfl, ?_⟩; refine RW.op1 rfl (runs_move rfl) ?_; refine RW.op1 rfl (runs_extract rfl rfl) ?_; refine RW.op1 rfl (runs_extract rfl rfl) ?_; refine RW.op1 rfl (runs_assign rfl) ?_; refine RW.op1 rfl (runs_assign rfl) ?_; refine RW.done ?_; refine AQ.next ?_; refine CW.seq ?_; refine CW.seq ?_; refine CW.region ?_; refine RW.op1 rfl (runs_move rfl) ?_; refine RW.op1 rfl (runs_neI rfl rfl) ?_; refine RW.done ?_; refine AQ.next ?_; refine CW.cond rfl (fun hc => absurd hc (by decide)) (fun hc => ?_); refine CW.skip ?_; refine AQ.next ?_; refine CW.seq ?_; refine CW.seq ?_; refine CW.region ?_; refine RW.op1 rfl (runs_move rfl) ?_; refine RW.call rfl call54 rfl rfl (trecs_spec hdu hst (by omega) (by rw [← hab] at tt1; exact tt1.rows)) ?_; rintro e w ⟨J32, v32, vs2, hJ32, rfl, hstn, hr2⟩; clear hst; have hst := hstn; clear hstn; rw [hab] at hr2; replace hst := hst.dropF.perm permS2.symm; replace hdt := hdt.mono hJ32; replace hb := hb.mono hJ32; replace hdu := hdu.mono hJ32; replace hle := hle.trans hJ32; refine ⟨_, rfl, ?_⟩; refine RW.op1 rfl (runs_move rfl) ?_; refine RW.op1 rfl (runs_extract rfl rfl) ?_; refine RW.op1 rfl (runs_extract rfl rfl) ?_; refine RW.op1 rfl (runs_assign rfl) ?_; refine RW.op1 rfl (runs_assign rfl) ?_; refine RW.done ?_; refine AQ.next ?_; refine CW.seq ?_; refine CW.region ?_; refine RW.op1 rfl (runs_move rfl) ?_; refine RW.op1 rfl (runs_neI rfl rfl) ?_
  refine RW.done ?_; refine AQ.next ?_; refine CW.cond rfl (fun hc => absurd hc (by decide)) (fun hc => ?_); refine CW.skip ?_; refine AQ.next ?_; refine CW.seq ?_; refine CW.region ?_; refine RW.op1 rfl (runs_move rfl) ?_; refine RW.op1 rfl (runs_nilCheck rfl) ?_
  refine RW.op1 rfl (runs_fieldAddr0 rfl Try.underlying59 rfl ti51 (by decide)) ?_
  refine RW.op1 rfl (runs_load1 sc51 rfl (hst.cell_own (k := 0) rfl rfl)) ?_
  refine RW.op1 rfl (runs_move rfl) ?_; refine RW.call rfl call55 rfl rfl (turn_any hd (hst.perm permS3) hli hr2 hrm.l hrm.n (by have := hrm.l; omega) (by omega)) ?_; rintro e w ⟨J43, Ld3, S3, G3, er, hJ43, rfl, hstn, hd3, hne, hres⟩; clear hst; have hst := hstn; clear hstn; replace hst := hst.perm permS3.symm; replace hdt := hdt.mono hJ43; replace hb := hb.mono hJ43; replace hdu := hdu.mono hJ43; replace hr2 := hr2.mono hJ43; replace hle := hle.trans hJ43; refine ⟨_, rfl, ?_⟩; refine RW.op1 rfl (runs_assign rfl) ?_; refine RW.done ?_; refine AQ.next ?_; refine CW.ret ?_; refine AQ.ret1 rfl rfl ?_; refine ⟨_, Ld3, S3, G3, er, hle, rfl, hst, hd3, hne, ?_⟩
  rcases hres with ⟨_, _, _, h⟩ | ⟨h1, _, h2, h3, h4⟩ | ⟨h1, h2, h3⟩
  · exact absurd h (by have := hrm.s; omega)
  · refine .inl ⟨h1, h2, ?_, h4⟩; rw [h3]; have := hrm.l; unfold GB turnS; dsimp only; omega
  · exact .inr ⟨h1, h2, h3⟩
end Go.Proofs.YtadgbifmiooikaaX
namespace Go.Proofs.YtadgbifmiooikaaX
set_option linter.unusedVariables false
set_option linter.unusedSimpArgs false
open Go Go.RowKit Go.Proofs
set_option maxRecDepth 100000 in
set_option maxHeartbeats 4000000 in
theorem do_any {w0 w : World} {I : Imm} {L Ld Lt : Own} {d : Value} {S : DS} {lb bT bS : Nat} {G : LG} {bs : List (List UInt8)} {rows : List TRow} {next : Int} (hd : DiskO d S Ld) (hst : St w0 w I ((bS, Obj.cells #[.pointer (some ⟨lb, 0, none⟩), .pointer (some ⟨bT, 0, none⟩)] 59) :: (lb, Obj.cells (logV d G).toArray 74) :: (Ld ++ (Lt ++ L)))) (hli : LI S G bs) (hdt : TbO I rows next bT Lt) (hti : TbI (absT rows) next) (hsi : SI bs (absT rows) next) {c : Int} (hcc : c ≤ 10000) (hg : GB c G) {vb : Value} {b : List UInt8} (hb : RdB I vb b) (hrm : Room (absT rows) next b) :
    Calls Try.prog 17 #[.pointer (some ⟨bS, 0, none⟩), vb] w fun e w' => ∃ I' Ld' S' G' rows' next' Lt' er, I.le I' ∧ e = .returned (.int .i64 er) ∧ St w0 w' I' ((bS, Obj.cells #[.pointer (some ⟨lb, 0, none⟩), .pointer (some ⟨bT, 0, none⟩)] 59) :: (lb, Obj.cells (logV d G').toArray 74) :: (Ld' ++ (Lt' ++ L))) ∧ DiskO d S' Ld' ∧ TbO I' rows' next' bT Lt' ∧ (S.left = -1 → er ≠ 8) ∧ ((er = 0 ∧ (absT rows', next') = apS (absT rows, next) b ∧ (∃ bs', LI S' G' bs' ∧ SI bs' (absT rows') next') ∧ GB (c + 1) G' ∧ (S.left = -1 → S'.left = -1) ∧ ((needN (b).length : Nat) ≤ roomR G → G' = G.to (G.at_ + (needN (b).length : Nat)) (G.nx + 1))) ∨ (er = 8 ∧ rows' = rows ∧ next' = next ∧ S'.down = true ∧ ∀ ks, DI (crashR S' ks).secs G.s bs G.at_ G.nx)) := by
  have hg0 := hg; obtain ⟨g1, g2, g3⟩ := hg0; obtain ⟨tt1, tt2⟩ := turn_ok hti hrm.t; refine enter Try.func17 rfl (N := 26) rfl rfl ?_
  simp only [List.zipIdx_cons, List.zipIdx_nil, List.map_cons, List.map_nil, Nat.zero_add, Nat.reduceAdd]
  have hle := Imm.le.refl I; refine CW.seq ?_; refine CW.region ?_; refine RW.op1 rfl (runs_assign rfl) ?_; refine RW.done ?_; refine AQ.next ?_; refine CW.seq ?_; refine CW.region ?_; refine RW.op1 rfl (runs_move rfl) ?_; refine RW.op1 rfl (runs_nilCheck rfl) ?_
  refine RW.op1 rfl (runs_fieldAddr0 rfl Try.underlying59 rfl ti51 (by decide)) ?_
  refine RW.op1 rfl (runs_load1 sc51 rfl (hst.cell_own (k := 0) rfl rfl)) ?_
  refine RW.op1 rfl (runs_move rfl) ?_; refine RW.call rfl call34 rfl rfl (append_any hd (hst.perm permS3) hli hb hrm.bn (by omega)) ?_; rintro e w ⟨J11, Ld1, S1, G1, er1, hJ11, rfl, hstn, hd1, hne, hres⟩; clear hst; have hst := hstn; clear hstn; replace hst := hst.perm permS3.symm; replace hdt := hdt.mono hJ11; replace hb := hb.mono hJ11; replace hle := hle.trans hJ11; refine ⟨_, rfl, ?_⟩; refine RW.op1 rfl (runs_assign rfl) ?_; refine RW.done ?_; refine AQ.next ?_; refine CW.seq ?_; refine CW.seq ?_; refine CW.region ?_; refine RW.op1 rfl (runs_move rfl) ?_; refine RW.op1 rfl (runs_eqI rfl rfl) ?_; refine RW.done ?_; refine AQ.next ?_; refine CW.cut (Imm × Own × DS × LG × Int) (fun y w => I.le y.1 ∧ RdB y.1 vb b ∧ TbO y.1 rows next bT Lt ∧ DiskO d y.2.2.1 y.2.1 ∧ (S.left = -1 → y.2.2.2.2 ≠ 8) ∧ ((y.2.2.2.2 = 0 ∧ (∃ bs', LI y.2.2.1 y.2.2.2.1 bs' ∧ SI bs' (apS (absT rows, next) b).1 (apS (absT rows, next) b).2) ∧ GB (c + 1) y.2.2.2.1 ∧ (S.left = -1 → y.2.2.1.left = -1) ∧ ((needN b.length : Nat) ≤ roomR G → y.2.2.2.1 = G.to (G.at_ + (needN b.length : Nat)) (G.nx + 1))) ∨ (y.2.2.2.2 = 8 ∧ y.2.2.1.down = true ∧ ∀ ks, DI (crashR y.2.2.1 ks).secs G.s bs G.at_ G.nx)) ∧ St w0 w y.1 ((bS, Obj.cells #[.pointer (some ⟨lb, 0, none⟩), .pointer (some ⟨bT, 0, none⟩)] 59) :: (lb, Obj.cells (logV d y.2.2.2.1).toArray 74) :: (y.2.1 ++ (Lt ++ L)))) (fun y => [(0, .pointer (some ⟨bS, 0, none⟩)), (1, vb), (5, .int .i64 y.2.2.2.2)]) ?_ ?_
  · refine CW.cond rfl (fun hc13 => ?_) (fun hc13 => ?_)
    · have hcb13 := hc13; try simp only [decide_eq_true_eq, decide_eq_false_iff_not] at hc13
      refine CW.region ?_; obtain ⟨rfl, rfl, rfl, hroom⟩ := hres.elim id (fun h => by rcases h with ⟨h, _⟩ | ⟨h, _⟩ <;> omega); refine RW.op1 rfl (runs_move rfl) ?_; refine RW.op1 rfl (runs_move rfl) ?_; refine RW.call rfl call35 rfl rfl (turned_spec hd1 hst hli hdt hti hcc hg hb hrm) ?_; rintro e w ⟨J16, Ld2, S2, G2, er2, hJ16, rfl, hstn, hd2, hne2, hres2⟩; clear hst; have hst := hstn; clear hstn; replace hdt := hdt.mono hJ16; replace hb := hb.mono hJ16; replace hle := hle.trans hJ16; refine ⟨_, rfl, ?_⟩; refine RW.op1 rfl (runs_assign rfl) ?_; refine RW.done ?_
      exact AQ.meet (_, Ld2, S2, G2, er2) ⟨hle, hb, hdt, hd2, hne2, hres2.imp (fun h => ⟨h.1, ⟨_, h.2.1, tt2⟩, h.2.2.1, h.2.2.2, fun h5 => absurd h5 (by omega)⟩) id, hst⟩ ⟨rfl, rfl, rfl, trivial⟩
    · have hcb13 := hc13; try simp only [decide_eq_true_eq, decide_eq_false_iff_not] at hc13
      refine CW.skip ?_
      exact AQ.meet (_, Ld1, S1, G1, er1) ⟨hle, hb, hdt, hd1, hne, (hres.resolve_left (fun h => hc13 h.1)).imp (fun h => ⟨h.1, ⟨_, h.2.1, hsi.add hti.nd hrm.b0⟩, (by rw [h.2.2.1]; unfold GB LG.to; dsimp only; omega), h.2.2.2, fun _ => h.2.2.1⟩) id, hst⟩ ⟨rfl, rfl, rfl, trivial⟩
  · clear hle hb hdt hd1 hst hres hne; rintro ⟨J3, Ld3, S3, G3, er3⟩ w ⟨hle, hb, hdt, hd3, hne, hres, hstn⟩; dsimp only at hle hb hdt hd3 hne hres hstn ⊢; have hst := hstn; clear hstn; refine AQ.next ?_; refine CW.seq ?_; refine CW.seq ?_; refine CW.region ?_; refine RW.op1 rfl (runs_move rfl) ?_; refine RW.op1 rfl (runs_neI rfl rfl) ?_; refine RW.done ?_; refine AQ.next ?_; refine CW.cond rfl (fun hc18 => ?_) (fun hc18 => ?_)
    · have hcb18 := hc18; try simp only [decide_eq_true_eq, decide_eq_false_iff_not] at hc18
      obtain ⟨he8, hdn, hcr⟩ := hres.resolve_left (fun h => hc18 h.1); refine CW.seq ?_; refine CW.region ?_; refine RW.op1 rfl (runs_move rfl) ?_; refine RW.op1 rfl (runs_assign rfl) ?_; refine RW.done ?_; refine AQ.next ?_; refine CW.ret ?_; refine AQ.past_ret ?_; refine AQ.ret1 rfl rfl ?_; exact ⟨_, Ld3, S3, G3, rows, next, Lt, er3, hle, rfl, hst, hd3, hdt, hne, .inr ⟨he8, rfl, rfl, hdn, hcr⟩⟩
    · have hcb18 := hc18; try simp only [decide_eq_true_eq, decide_eq_false_iff_not] at hc18
      obtain ⟨he0, ⟨bs2, hli2, hsi2⟩, hgb2, hlf, hto⟩ := hres.resolve_right (fun h => by have := h.1; omega); refine CW.skip ?_; refine AQ.next ?_; refine CW.seq ?_; refine CW.region ?_; refine RW.op1 rfl (runs_move rfl) ?_; refine RW.op1 rfl (runs_nilCheck rfl) ?_
      refine RW.op1 rfl (runs_fieldAddr0 rfl Try.underlying59 rfl ti55 (by decide)) ?_
      refine RW.op1 rfl (runs_load1 sc55 rfl (hst.cell_own (k := 0) rfl rfl)) ?_
      refine RW.op1 rfl (runs_move rfl) ?_; refine RW.call rfl call30 rfl rfl (apply_spec hdt (hst.perm permS2) hb (by have := hrm.b0.2; omega)) ?_; rintro e w ⟨J25, rows3, nx3, Lt3, er4, hJ25, rfl, hstn, hdt3, hap⟩; clear hst; have hst := hstn; clear hstn; obtain ⟨hea, hab⟩ := Ap_abs hap; rw [hrm.b0.1] at hea; replace hdt := hdt.mono hJ25; replace hb := hb.mono hJ25; replace hle := hle.trans hJ25; refine ⟨_, rfl, ?_⟩; refine RW.op1 rfl (runs_assign rfl) ?_; refine RW.done ?_; refine AQ.next ?_; refine CW.ret ?_; refine AQ.ret1 rfl rfl ?_; rw [← hab] at hsi2; exact ⟨_, Ld3, S3, G3, rows3, nx3, Lt3, er4, hle, rfl, hst.perm permS2.symm, hd3, hdt3, fun _ => by omega, .inl ⟨hea, hab, ⟨bs2, hli2, hsi2⟩, hgb2, hlf, hto⟩⟩
set_option maxRecDepth 100000 in
set_option maxHeartbeats 4000000 in
theorem sput_any {w0 w : World} {I : Imm} {L Ld Lt : Own} {d : Value} {S : DS} {lb bT bS : Nat} {G : LG} {bs : List (List UInt8)} {rows : List TRow} {next : Int} (hd : DiskO d S Ld) (hst : St w0 w I ((bS, Obj.cells #[.pointer (some ⟨lb, 0, none⟩), .pointer (some ⟨bT, 0, none⟩)] 59) :: (lb, Obj.cells (logV d G).toArray 74) :: (Ld ++ (Lt ++ L)))) (hli : LI S G bs) (hdt : TbO I rows next bT Lt) (hti : TbI (absT rows) next) (hsi : SI bs (absT rows) next) {c : Int} (hcc : c ≤ 10000) (hg : GB c G) {it : It} {vh : Value} (hv : RdH I vh it.heads) (hok : ItOk it) (ho : encOk (itAV it) = true) (hrm : Room (absT rows) next (recB it)) :
    Calls Try.prog 7 #[.pointer (some ⟨bS, 0, none⟩), itv it vh] w fun e w' => ∃ I' Ld' S' G' rows' next' Lt' er, I.le I' ∧ e = .returned (.int .i64 er) ∧ St w0 w' I' ((bS, Obj.cells #[.pointer (some ⟨lb, 0, none⟩), .pointer (some ⟨bT, 0, none⟩)] 59) :: (lb, Obj.cells (logV d G').toArray 74) :: (Ld' ++ (Lt' ++ L))) ∧ DiskO d S' Ld' ∧ TbO I' rows' next' bT Lt' ∧ (S.left = -1 → er ≠ 8) ∧ ((er = 0 ∧ (absT rows', next') = apS (absT rows, next) (recB it) ∧ (∃ bs', LI S' G' bs' ∧ SI bs' (absT rows') next') ∧ GB (c + 1) G' ∧ (S.left = -1 → S'.left = -1) ∧ ((needN ((recB it)).length : Nat) ≤ roomR G → G' = G.to (G.at_ + (needN ((recB it)).length : Nat)) (G.nx + 1))) ∨ (er = 8 ∧ rows' = rows ∧ next' = next ∧ S'.down = true ∧ ∀ ks, DI (crashR S' ks).secs G.s bs G.at_ G.nx)) := by
  refine enter Try.func7 rfl (N := 18) rfl rfl ?_
  simp only [List.zipIdx_cons, List.zipIdx_nil, List.map_cons, List.map_nil, Nat.zero_add, Nat.reduceAdd]
  have hle := Imm.le.refl I; refine CW.seq ?_; refine CW.region ?_; refine RW.opE rfl (runs_box rfl hst) ?_; rintro _ w ⟨b3, rfl, hstn⟩; clear hst; have hst := hstn; clear hstn; refine RW.op1 rfl (runs_assign rfl) ?_; refine RW.done ?_; refine AQ.next ?_; refine CW.seq ?_; refine CW.region ?_; refine RW.op1 rfl (runs_loadN (vs := [.int .i64 (it).id, .int .i64 (it).kind, .int .i64 (it).group, .string (it).name, .string (it).method, .string (it).url, vh, .string (it).body, .int .i64 (it).mode, .int .i64 (it).creds, .string (it).page, .string (it).csp, .int .i64 (it).refer, .string (it).nurl, .string (it).nmethod, .string (it).nbody, .int .i64 (it).hops, .int .i64 (it).tries, .int .i64 (it).til, .bool (it).tainted, .string (it).got, .string (it).tag, .int .i64 (it).state, .int .i64 (it).code, .bool (it).acked]) ag38 ti38 rfl hst (k := 0) rfl rfl rfl) ?_; refine RW.call rfl call16 rfl rfl (putrec_spec hst.drop1 hv hok) ?_; rintro e w ⟨J9, v9, hJ9, rfl, hstn, hv9⟩; clear hst; have hst := hstn; clear hstn; rw [ho] at hv9 ⊢; rw [if_pos rfl] at hv9; replace hdt := hdt.mono hJ9; replace hv := hv.mono hJ9; replace hle := hle.trans hJ9; refine ⟨_, rfl, ?_⟩; refine RW.op1 rfl (runs_move rfl) ?_; refine RW.op1 rfl (runs_extract rfl rfl) ?_; refine RW.op1 rfl (runs_extract rfl rfl) ?_; refine RW.op1 rfl (runs_assign rfl) ?_; refine RW.op1 rfl (runs_assign rfl) ?_; refine RW.done ?_; refine AQ.next ?_; refine CW.seq ?_; refine CW.seq ?_; refine CW.region ?_
  refine RW.op1 rfl (runs_move rfl) ?_; refine RW.op1 rfl (runs_neI rfl rfl) ?_; refine RW.done ?_; refine AQ.next ?_; refine CW.cond rfl (fun hc => absurd hc (by decide)) (fun hc => ?_); refine CW.skip ?_; refine AQ.next ?_; refine CW.seq ?_; refine CW.region ?_; refine RW.op1 rfl (runs_move rfl) ?_; refine RW.op1 rfl (runs_move rfl) ?_; refine RW.call rfl call17 rfl rfl (do_any hd hst hli hdt hti hsi hcc hg hv9 hrm) ?_; rintro e w ⟨J17, Ld2, S2, G2, rows2, next2, Lt2, er2, hJ17, rfl, hstn, hd2, hdt2, hne2, hres2⟩; clear hst; have hst := hstn; clear hstn; replace hdt := hdt.mono hJ17; replace hv := hv.mono hJ17; replace hv9 := hv9.mono hJ17; replace hle := hle.trans hJ17; refine ⟨_, rfl, ?_⟩; refine RW.op1 rfl (runs_assign rfl) ?_; refine RW.done ?_; refine AQ.next ?_; refine CW.ret ?_; refine AQ.ret1 rfl rfl ?_; exact ⟨_, Ld2, S2, G2, rows2, next2, Lt2, er2, hle, rfl, hst, hd2, hdt2, hne2, hres2⟩
set_option maxRecDepth 100000 in
set_option maxHeartbeats 1000000 in
theorem snext_spec {w0 w : World} {I : Imm} {L Lt : Own} {lb bT bS : Nat} {rows : List TRow} {next : Int} (hdt : TbO I rows next bT Lt) (hst : St w0 w I ((bS, Obj.cells #[.pointer (some ⟨lb, 0, none⟩), .pointer (some ⟨bT, 0, none⟩)] 59) :: (Lt ++ L))) :
    Calls Try.prog 9 #[.pointer (some ⟨bS, 0, none⟩)] w fun e w' => e = .returned (.int .i64 next) ∧ St w0 w' I ((bS, Obj.cells #[.pointer (some ⟨lb, 0, none⟩), .pointer (some ⟨bT, 0, none⟩)] 59) :: (Lt ++ L)) := by
  refine enter Try.func9 rfl (N := 8) rfl rfl ?_
  simp only [List.zipIdx_cons, List.zipIdx_nil, List.map_cons, List.map_nil, Nat.zero_add, Nat.reduceAdd]
  have hle := Imm.le.refl I; refine CW.seq ?_; refine CW.region ?_; refine RW.op1 rfl (runs_assign rfl) ?_; refine RW.done ?_; refine AQ.next ?_; refine CW.seq ?_; refine CW.region ?_; refine RW.op1 rfl (runs_move rfl) ?_; refine RW.op1 rfl (runs_nilCheck rfl) ?_
  refine RW.op1 rfl (runs_fieldAddr0 rfl Try.underlying59 rfl ti55 (by decide)) ?_
  refine RW.op1 rfl (runs_load1 sc55 rfl (hst.cell_own (k := 0) rfl rfl)) ?_
  refine RW.call rfl call19 rfl rfl (next_spec hdt (hst.perm (List.perm_middle (l₁ := Lt)).symm)) ?_; rintro e w ⟨rfl, hstn⟩; clear hst; have hst := hstn; clear hstn; refine ⟨_, rfl, ?_⟩; refine RW.op1 rfl (runs_assign rfl) ?_; refine RW.done ?_; refine AQ.next ?_; refine CW.ret ?_; refine AQ.ret1 rfl rfl ?_; exact ⟨rfl, hst.perm (List.perm_middle (l₁ := Lt))⟩
set_option maxRecDepth 100000 in
set_option maxHeartbeats 1000000 in
theorem sids_spec {w0 w : World} {I : Imm} {L Lt : Own} {lb bT bS : Nat} {rows : List TRow} {next : Int} (hdt : TbO I rows next bT Lt) (hst : St w0 w I ((bS, Obj.cells #[.pointer (some ⟨lb, 0, none⟩), .pointer (some ⟨bT, 0, none⟩)] 59) :: (Lt ++ L))) (hz : rows.length ≤ 1000000) :
    Calls Try.prog 12 #[.pointer (some ⟨bS, 0, none⟩)] w fun e w' => ∃ I' v, I.le I' ∧ e = .returned v ∧ St w0 w' I' ((bS, Obj.cells #[.pointer (some ⟨lb, 0, none⟩), .pointer (some ⟨bT, 0, none⟩)] 59) :: (Lt ++ L)) ∧ RdI I' v (keysUp rows) := by
  refine enter Try.func12 rfl (N := 8) rfl rfl ?_
  simp only [List.zipIdx_cons, List.zipIdx_nil, List.map_cons, List.map_nil, Nat.zero_add, Nat.reduceAdd]
  have hle := Imm.le.refl I; refine CW.seq ?_; refine CW.region ?_; refine RW.op1 rfl (runs_assign rfl) ?_; refine RW.done ?_; refine AQ.next ?_; refine CW.seq ?_; refine CW.region ?_; refine RW.op1 rfl (runs_move rfl) ?_; refine RW.op1 rfl (runs_nilCheck rfl) ?_
  refine RW.op1 rfl (runs_fieldAddr0 rfl Try.underlying59 rfl ti55 (by decide)) ?_
  refine RW.op1 rfl (runs_load1 sc55 rfl (hst.cell_own (k := 0) rfl rfl)) ?_
  refine RW.call rfl call20 rfl rfl (ids_spec hdt (hst.perm (List.perm_middle (l₁ := Lt)).symm) hz) ?_; rintro e w ⟨J7, v7, hJ7, rfl, hstn, hv7⟩; clear hst; have hst := hstn; clear hstn; replace hle := hle.trans hJ7; refine ⟨_, rfl, ?_⟩; refine RW.op1 rfl (runs_assign rfl) ?_; refine RW.done ?_; refine AQ.next ?_; refine CW.ret ?_; refine AQ.ret1 rfl rfl ?_; exact ⟨_, v7, hle, rfl, hst.perm (List.perm_middle (l₁ := Lt)), hv7⟩
set_option maxRecDepth 100000 in
set_option maxHeartbeats 1000000 in
theorem sget_spec {w0 w : World} {I : Imm} {L Lt : Own} {lb bT bS : Nat} {rows : List TRow} {next : Int} (hdt : TbO I rows next bT Lt) (hst : St w0 w I ((bS, Obj.cells #[.pointer (some ⟨lb, 0, none⟩), .pointer (some ⟨bT, 0, none⟩)] 59) :: (Lt ++ L))) (id : Int) :
    Calls Try.prog 8 #[.pointer (some ⟨bS, 0, none⟩), .int .i64 id] w fun e w' => ∃ (it : It) (v' : Value) (Lv' : Own), e = .returned (.tuple #[itv it v', .bool (pget rows id).isSome]) ∧ St w0 w' I (Lv' ++ ((bS, Obj.cells #[.pointer (some ⟨lb, 0, none⟩), .pointer (some ⟨bT, 0, none⟩)] 59) :: (Lt ++ L))) ∧ v'.oneCell' = true ∧ Grow 31 2 v' (it.heads).length ((it.heads).flatMap hrow) Lv' ∧ it.heads.length ≤ 100000000 ∧ ((pget rows id).map Prod.fst).getD zeroIt = it := by
  refine enter Try.func8 rfl (N := 14) rfl rfl ?_
  simp only [List.zipIdx_cons, List.zipIdx_nil, List.map_cons, List.map_nil, Nat.zero_add, Nat.reduceAdd]
  have hle := Imm.le.refl I; refine CW.seq ?_; refine CW.region ?_; refine RW.opE rfl (runs_alloc ti38 hst) ?_; rintro _ w ⟨b4, rfl, hstn⟩; clear hst; have hst := hstn; clear hstn; refine RW.op1 rfl (runs_assign rfl) ?_; refine RW.done ?_; refine AQ.next ?_; refine CW.seq ?_; refine CW.region ?_; refine RW.op1 rfl (runs_move rfl) ?_; refine RW.op1 rfl (runs_nilCheck rfl) ?_
  refine RW.op1 rfl (runs_fieldAddr0 rfl Try.underlying59 rfl ti55 (by decide)) ?_
  refine RW.op1 rfl (runs_load1 sc55 rfl (hst.cell_own (k := 1) rfl rfl)) ?_
  refine RW.op1 rfl (runs_move rfl) ?_; refine RW.call rfl call18 rfl rfl (get_spec hdt (hst.perm (perm_two2 _ _ Lt L)) id) ?_; rintro e w ⟨it, v11, Lv11, rfl, hstn, hv11, hg11, hl11, he11⟩; clear hst; have hst := hstn; clear hstn; replace hst := (hst.perm (List.Perm.append_left Lv11 (perm_two2 _ _ Lt L).symm)).perm List.perm_middle; refine ⟨_, rfl, ?_⟩; refine RW.op1 rfl (runs_extract rfl rfl) ?_; refine RW.op1 rfl (runs_extract rfl rfl) ?_; refine RW.opE0 (runs_storeW ti38 rfl rfl hst (k := 0) rfl rfl rfl (NoFz.zero _) (it_one it hv11)) ?_; rintro w hstn; clear hst; have hst := hstn; clear hstn; try simp only [List.set_cons_zero, List.set_cons_succ] at hst
  refine RW.op1 rfl (runs_assign rfl) ?_; refine RW.done ?_; refine AQ.next ?_; refine CW.ret ?_; refine AQ.retL (rs := [.cell 4 38, .tmp 5]) (vs := [_, _]) rfl ⟨⟨_, rfl, hst.loadN (vs := [_, _, _, _, _, _, _, _, _, _, _, _, _, _, _, _, _, _, _, _, _, _, _, _, _]) (k := 0) ag38 ti38 rfl rfl rfl⟩, rfl, trivial⟩ (by simp) ?_; exact ⟨it, v11, Lv11, rfl, hst.drop1, hv11, hg11, hl11, he11⟩
set_option maxRecDepth 100000 in
set_option maxHeartbeats 1000000 in
theorem sformat_up {w0 w : World} {I : Imm} {L Ld : Own} {d : Value} {S : DS} (hd : DiskO d S Ld) (hst : St w0 w I (Ld ++ L)) (hu : Up S) (hl : S.secs.length = 514) (hpn : S.pend.length ≤ 600000) :
    Calls Try.prog 5 #[d] w fun e w' => ∃ I' Ld' S', Imm.le I I' ∧ e = .returned (.int .i64 0) ∧ St w0 w' I' (Ld' ++ L) ∧ DiskO d S' Ld' ∧ Up S' ∧ S'.pend = [] ∧ DI S'.secs slot1 [] 2 1 := by
  refine enter Try.func5 rfl (N := 5) rfl rfl ?_
  simp only [List.zipIdx_cons, List.zipIdx_nil, List.map_cons, List.map_nil, Nat.zero_add, Nat.reduceAdd]
  have hle := Imm.le.refl I; refine CW.seq ?_; refine CW.region ?_; refine RW.op1 rfl (runs_assign rfl) ?_; refine RW.done ?_; refine AQ.next ?_; refine CW.seq ?_; refine CW.region ?_; refine RW.op1 rfl (runs_move rfl) ?_; refine RW.call rfl call13 rfl rfl (format_up hd hst hu hl hpn) ?_; rintro e w ⟨J4, Ld1, S1, hJ4, rfl, hstn, hd1, hu1, hp1, hdi1⟩; clear hst; have hst := hstn; clear hstn; replace hle := hle.trans hJ4; refine ⟨_, rfl, ?_⟩; refine RW.op1 rfl (runs_assign rfl) ?_; refine RW.done ?_; refine AQ.next ?_; refine CW.ret ?_; refine AQ.ret1 rfl rfl ?_; exact ⟨_, Ld1, S1, hle, rfl, hst, hd1, hu1, hp1, hdi1⟩
end Go.Proofs.YtadgbifmiooikaaX
namespace Go.Proofs.YtadgbifmiooikaaX
set_option linter.unusedVariables false
set_option linter.unusedSimpArgs false
open Go Go.RowKit
def hsSz (hs : List HRow) : Nat := (hs.map fun h => 4 + h.1.size + h.2.size).sum
def itSz (it : It) : Nat := 132 + (it.name.size + it.method.size + it.url.size + it.body.size + it.page.size + it.csp.size + it.nurl.size + it.nmethod.size + it.nbody.size + it.got.size + it.tag.size) + hsSz it.heads
theorem enc1_txt (b : ByteArray) : (enc1 (.txt b)).length = 2 + b.size := by
  show (115 :: u8 b.size :: b.toList).length = _
  rw [List.length_cons, List.length_cons, ← size_toList]; omega
theorem enc1_num (n : Int) : (enc1 (.num n)).length = 9 := by show (105 :: be8 n).length = 9; rw [List.length_cons, be8_length]
theorem enc1_flg (t : Bool) : (enc1 (.flg t)).length = 1 := rfl
theorem encA_app (a b : List AV) : encA (a ++ b) = encA a ++ encA b := List.flatMap_append
theorem encA_cons (a : AV) (b : List AV) : (encA (a :: b)).length = (enc1 a).length + (encA b).length := by unfold encA; rw [List.flatMap_cons, List.length_append]
theorem encA_nil : (encA []).length = 0 := rfl
theorem encH_len (hs : List HRow) : (encA (hAV hs)).length = hsSz hs := by
  unfold hAV hsSz
  induction hs with
  | nil => rfl
  | cons h t ih =>
    rw [List.flatMap_cons, encA_app, List.length_append, ih, List.map_cons, List.sum_cons]; rw [encA_cons, encA_cons, encA_nil, enc1_txt, enc1_txt]; omega
theorem encIt_len (it : It) : (encA (itAV it)).length = itSz it := by
  unfold itAV; rw [encA_app, encA_app, List.length_append, List.length_append, encH_len]; unfold headAV tailAV itSz
  simp only [encA_cons, encA_nil, enc1_txt, enc1_num, enc1_flg]
  omega
theorem ck_sum (b : List UInt8) : ((List.range (ckCnt b.length)).flatMap (ckL b)).length = b.length := by
  rw [ck_join b _ (Nat.le_refl _), List.length_take]; unfold ckCnt; omega
theorem recB_exact (it : It) : (recB it).length = 5 + 2 * ckCnt (itSz it) + itSz it := by
  unfold recB
  have h1 : ∀ (b : List UInt8) (l : List Nat), (encA (l.map fun k => .txt (strOf (ckL b k)))).length = 2 * l.length + (l.flatMap (ckL b)).length := by
    intro b l
    induction l with
    | nil => rfl
    | cons k t ih =>
      rw [List.map_cons, encA_cons, ih, enc1_txt, strOf_size, List.flatMap_cons, List.length_append, List.length_cons]; omega
  unfold recAV; rw [encA_cons, enc1_txt, h1, ck_sum, List.length_range, encIt_len]; have : putS.size = 3 := rfl; omega
theorem rec_need {it : It} {z : Nat} (h : itSz it ≤ z) : needN (recB it).length ≤ (z + 2 * ((z + 199) / 200) + 27) / 19 := by
  rw [recB_exact]; unfold needN ckCnt; omega
theorem next_need (n : Int) : needN (encA [.txt nextS, .num n]).length ≤ 1 := by
  have h : (encA [.txt nextS, .num n]).length = 15 := by
    rw [encA_cons, encA_cons, encA_nil, enc1_txt, enc1_num]
    rfl
  rw [h]
  decide
theorem drop_need (n : Int) : needN (encA [.txt dropS, .num n]).length ≤ 1 := by
  have h : (encA [.txt dropS, .num n]).length = 15 := by
    rw [encA_cons, encA_cons, encA_nil, enc1_txt, enc1_num]
    rfl
  rw [h]
  decide
theorem up_eqS : ∀ {a b : List Int}, a.Pairwise (· < ·) → b.Pairwise (· < ·) → (∀ x, x ∈ a ↔ x ∈ b) → a = b
  | [], [], _, _, _ => rfl
  | [], y :: t, _, _, h => absurd ((h y).2 (List.mem_cons_self ..)) (by simp)
  | x :: s, [], _, _, h => absurd ((h x).1 (List.mem_cons_self ..)) (by simp)
  | x :: s, y :: t, ha, hb, h => by
    rw [List.pairwise_cons] at ha hb
    have exy : x = y := by
      rcases List.mem_cons.1 ((h x).1 (List.mem_cons_self ..)) with e | h1
      · exact e
      · rcases List.mem_cons.1 ((h y).2 (List.mem_cons_self ..)) with e | h2
        · exact e.symm
        · have := hb.1 x h1; have := ha.1 y h2; omega
    subst exy; rw [up_eqS ha.2 hb.2 (fun z => ⟨fun hz => ?_, fun hz => ?_⟩)]
    · rcases List.mem_cons.1 ((h z).1 (List.mem_cons_of_mem _ hz)) with e | h1
      · have := ha.1 z hz; omega
      · exact h1
    · rcases List.mem_cons.1 ((h z).2 (List.mem_cons_of_mem _ hz)) with e | h1
      · have := hb.1 z hz; omega
      · exact h1
theorem SEq.keys {s t : AT} (h : SEq s t) (hs : Nd s) (ht : Nd t) : keysUp s.1 = keysUp t.1 := by
  refine up_eqS (keysUp_lt hs) (keysUp_lt ht) fun k => ?_
  rw [keysUp_mem, keysUp_mem]
  constructor <;> intro hk
  · refine Classical.byContradiction fun hn => ?_
    have := pget_none.2 hn; rw [← h.2 k] at this; exact absurd hk (pget_none.1 this)
  · refine Classical.byContradiction fun hn => ?_
    have := pget_none.2 hn; rw [h.2 k] at this; exact absurd hk (pget_none.1 this)
theorem SEq.len {s t : AT} (h : SEq s t) (hs : Nd s) (ht : Nd t) : s.1.length = t.1.length := by
  have := congrArg List.length (h.keys hs ht)
  rwa [keysUp_len, keysUp_len] at this
theorem SEq.mem {s t : AT} (h : SEq s t) (hs : Nd s) {r : Int × It} (hr : r ∈ s.1) : r ∈ t.1 := pget_mem (by rw [← h.2]; exact pget_some hs (k := r.1) (u := r.2) hr)
theorem Room.mk2 {A : List (Int × It)} {next : Int} {b : List UInt8} (h : TbI A next) (hb : RecOk b) (hbn : needN b.length ≤ 255) (hr : A.length ≤ 1000) (h2 : TbI (apS (A, next) b).1 (apS (A, next) b).2) {m : Nat} (hm : m ≤ 255) (hz : ∀ r ∈ (apS (A, next) b).1, needN (recB r.2).length ≤ m) (hc : 1 + (apS (A, next) b).1.length * m ≤ 256) (hl : (apS (A, next) b).1.length ≤ 999) : Room A next b := by
  obtain ⟨e, hn⟩ := turn_seq h b; have hl2 := e.len hn (by exact h2.nd)
  have hz2 : ∀ r ∈ (turnA A next b).1, needN (recB r.2).length ≤ m := fun r hr => hz r (e.mem hn hr)
  refine ⟨hb, h2, ?_, ?_, by rw [recsA_len, hl2]; omega, hr, hbn⟩
  · have := needS_map (next := (turnA A next b).2) (next_need _) hz2 hn; rw [hl2] at this; omega
  · intro x hx; unfold recsA at hx
    rcases List.mem_cons.1 hx with rfl | hx
    · exact Nat.le_trans (next_need _) (by decide)
    · obtain ⟨k, hk, rfl⟩ := List.mem_map.1 hx; have hk2 := (keysUp_mem _ k).1 hk
      obtain ⟨it, hit⟩ : ∃ it, pget (turnA A next b).1 k = some it := by
        cases h3 : pget (turnA A next b).1 k with
        | none => exact absurd hk2 (pget_none.1 h3)
        | some it => exact ⟨it, rfl⟩
      have h4 := hz2 _ (pget_mem hit)
      have h5 : itA (turnA A next b).1 k = it := by unfold itA; rw [hit]; rfl
      rw [h5]; exact Nat.le_trans h4 hm
theorem Room.put {A : List (Int × It)} {next : Int} (h : TbI A next) {it : It} (hok : ItOk it) (ho : encOk (itAV it) = true) (h1 : 1 ≤ it.id) (h2 : it.id < 999999) (h3 : it.heads.length ≤ 1000) {m : Nat} (hm : m ≤ 255) (hz : ∀ r ∈ A, needN (recB r.2).length ≤ m) (hi : needN (recB it).length ≤ m) (hc : 1 + (pput A it.id it).length * m ≤ 256) (hl : A.length ≤ 900) : Room A next (recB it) := by
  obtain ⟨p1, p2⟩ := put_rec hok ho
  have hb : (recB it).length ≤ 1000000 := by
    have := (need_room (recB it).length).1; omega
  have hl2 := pput_len A it.id it; refine Room.mk2 h ⟨p1, hb⟩ (Nat.le_trans hi hm) (by omega) ?_ hm ?_ ?_ ?_
  · rw [p2]; exact (h.put hok ho h1 h2 h3).1
  · rw [p2]; intro r hr
    rcases pput_mem hr with rfl | hr
    · exact hi
    · exact hz r hr
  · rw [p2]; exact hc
  · rw [p2]; dsimp only; omega
theorem Room.drop {A : List (Int × It)} {next : Int} (h : TbI A next) {n : Int} (hn : i64ok n) {m : Nat} (hm : m ≤ 255) (hz : ∀ r ∈ A, needN (recB r.2).length ≤ m) (hc : 1 + A.length * m ≤ 256) (hl : A.length ≤ 900) : Room A next (encA [.txt dropS, .num n]) := by
  obtain ⟨p1, p2⟩ := drop_rec hn; have hl2 := pdel_len A n; refine Room.mk2 h p1 (Nat.le_trans (drop_need n) (by decide)) (by omega) ?_ hm ?_ ?_ ?_
  · rw [p2]; exact h.del n
  · rw [p2]; exact fun r hr => hz r (pdel_mem hr)
  · rw [p2]; dsimp only; have := Nat.mul_le_mul_right m hl2; omega
  · rw [p2]; dsimp only; omega
end Go.Proofs.YtadgbifmiooikaaX
namespace Go.Proofs.YtadgbifmiooikaaX
set_option linter.unusedVariables false
set_option linter.unusedSimpArgs false
open Go Go.RowKit Go.Proofs
structure Sto (I : Imm) (S : DS) (G : LG) (bs : List (List UInt8)) (rows : List TRow) (next : Int) (bT : Nat) (Lt : Own) (c : Int) : Prop where
  li : LI S G bs
  up : Up S
  tb : TbO I rows next bT Lt
  ti : TbI (absT rows) next
  si : SI bs (absT rows) next
  gb : GB c G
theorem Sto.mono {I I' : Imm} {S : DS} {G : LG} {bs : List (List UInt8)} {rows : List TRow} {next : Int} {bT : Nat} {Lt : Own} {c : Int} (h : Sto I S G bs rows next bT Lt c) (hI : I.le I') : Sto I' S G bs rows next bT Lt c := ⟨h.li, h.up, h.tb.mono hI, h.ti, h.si, h.gb⟩
theorem permT {α : Type} {a b : α} {X Y Q : List α} : (a :: b :: (X ++ (Y ++ Q))).Perm (a :: (Y ++ (b :: (X ++ Q)))) := List.Perm.cons _ permS1
theorem stateT {w0 w : World} {I : Imm} {a b : Nat × Obj} {X Y Q : Own} (h : St w0 w I (a :: b :: (X ++ (Y ++ Q)))) : St w0 w I (a :: (Y ++ (b :: (X ++ Q)))) := h.perm permT
theorem stateB {w0 w : World} {I : Imm} {a b : Nat × Obj} {X Y Q : Own} (h : St w0 w I (a :: (Y ++ (b :: (X ++ Q))))) : St w0 w I (a :: b :: (X ++ (Y ++ Q))) := h.perm permT.symm
theorem sput_up {w0 w : World} {I : Imm} {L Ld Lt : Own} {d : Value} {S : DS} {lb bT bS : Nat} {G : LG} {bs : List (List UInt8)} {rows : List TRow} {next c : Int} (hd : DiskO d S Ld) (hst : St w0 w I ((bS, Obj.cells #[.pointer (some ⟨lb, 0, none⟩), .pointer (some ⟨bT, 0, none⟩)] 59) :: (lb, Obj.cells (logV d G).toArray 74) :: (Ld ++ (Lt ++ L)))) (h : Sto I S G bs rows next bT Lt c) (hcc : c ≤ 10000) {it : It} {vh : Value} (hv : RdH I vh it.heads) (hok : ItOk it) (ho : encOk (itAV it) = true) (hrm : Room (absT rows) next (recB it)) :
    Calls Try.prog 7 #[.pointer (some ⟨bS, 0, none⟩), itv it vh] w fun e w' => ∃ I' Ld' S' G' bs' rows' next' Lt', I.le I' ∧ e = .returned (.int .i64 0) ∧ St w0 w' I' ((bS, Obj.cells #[.pointer (some ⟨lb, 0, none⟩), .pointer (some ⟨bT, 0, none⟩)] 59) :: (lb, Obj.cells (logV d G').toArray 74) :: (Ld' ++ (Lt' ++ L))) ∧ DiskO d S' Ld' ∧ Sto I' S' G' bs' rows' next' bT Lt' (c + 1) ∧ absT rows' = pput (absT rows) it.id it ∧ next' = nextR next it.id ∧ ((needN (recB it).length : Nat) ≤ roomR G → G' = G.to (G.at_ + (needN (recB it).length : Nat)) (G.nx + 1)) := by
  refine (sput_any hd hst h.li h.tb h.ti h.si hcc h.gb hv hok ho hrm).mono ?_; rintro e w' ⟨I', Ld', S', G', rows', next', Lt', er, h1, rfl, h2, h3, h4, h5, h6⟩; obtain ⟨rfl, e1, ⟨bs', e2, e3⟩, e4, e5, e6⟩ := h6.resolve_right (fun hh => h5 h.up.2 hh.1); rw [(put_rec hok ho).2] at e1; have f1 : absT rows' = pput (absT rows) it.id it := congrArg Prod.fst e1; have f2 : next' = nextR next it.id := congrArg Prod.snd e1
  have ht : TbI (absT rows') next' := by
    have := hrm.t; rw [(put_rec hok ho).2] at this; rw [f1, f2]; exact this
  exact ⟨I', Ld', S', G', bs', rows', next', Lt', h1, rfl, h2, h3, ⟨e2, ⟨e2.on, e5 h.up.2⟩, h4, ht, e3, e4⟩, f1, f2, e6⟩
theorem sopen_sto {w0 w : World} {I : Imm} {L Ld : Own} {d : Value} {S : DS} {s : Slot} {bs : List (List UInt8)} {a nx : Int} (hd : DiskO d S Ld) (hst : St w0 w I (Ld ++ L)) (hu : Up S) (hp : S.pend = []) (hdi : DI S.secs s bs a nx) {A : List (Int × It)} {next : Int} (hsi : SI bs A next) (hti : TbI A next) {c : Int} (hcc : c ≤ 10000) (hs : s.n ≤ c ∧ s.e ≤ c ∧ nx ≤ 1001 * c) :
    Calls Try.prog 6 #[d] w fun e w' => ∃ I' Ld' lb bT bS rows S' Lt, I.le I' ∧ e = .returned (.tuple #[.pointer (some ⟨bS, 0, none⟩), .int .i64 0]) ∧ St w0 w' I' ((bS, Obj.cells #[.pointer (some ⟨lb, 0, none⟩), .pointer (some ⟨bT, 0, none⟩)] 59) :: (lb, Obj.cells (logV d ⟨s.up, a, nx, 0⟩).toArray 74) :: (Ld' ++ (Lt ++ L))) ∧ DiskO d S' Ld' ∧ Sto I' S' ⟨s.up, a, nx, 0⟩ bs rows next bT Lt (c + 1) ∧ SEq (absT rows, next) (A, next) := by
  refine (sopen_up hd hst hu hp hdi (by omega) hsi hti (by omega)).mono ?_; rintro e w' ⟨I', Ld', lb, bT, bS, rows, S', Lt, h1, rfl, h2, h3, h4, h5, h6, h7, h8, h9⟩; refine ⟨I', Ld', lb, bT, bS, rows, S', Lt, h1, rfl, h2, h3, ⟨h4, h5, h6, h8, h9, ?_⟩, h7⟩; unfold GB Slot.up; dsimp only; omega
theorem seq_nil {A : List (Int × It)} {n : Int} (h : SEq (A, n) ([], 1)) (hn : (A.map Prod.fst).Nodup) : A = [] := List.eq_nil_of_length_eq_zero (h.len (s := (A, n)) hn List.nodup_nil)
def itQ (id til : Int) (name tag : ByteArray) (hs : List HRow) : It := { zeroIt with id := id, til := til, name := name, tag := tag, heads := hs }
theorem itQ_ok {id til : Int} {name tag : ByteArray} {hs : List HRow} (h1 : i64ok id) (h2 : i64ok til) (h3 : hs.length ≤ 1000) : ItOk (itQ id til name tag hs) := by
  have z : i64ok 0 := by unfold i64ok; decide
  exact ⟨h1, z, z, z, z, z, z, z, h2, z, z, by show hs.length ≤ 100000000; omega⟩
theorem itQ_enc {id til : Int} {name tag : ByteArray} {hs : List HRow} (h3 : ∀ r ∈ hs, r.1.size ≤ 255 ∧ r.2.size ≤ 255) : encOk (itAV (itQ id til name tag hs)) = (decide (name.size ≤ 255) && decide (tag.size ≤ 255)) := by
  have hh : (hAV hs).all enc1Ok = true := by
    rw [List.all_eq_true]; intro a ha; unfold hAV at ha; obtain ⟨r, hr, h2⟩ := List.mem_flatMap.1 ha; have h3 := h3 r hr
    simp only [List.mem_cons, List.not_mem_nil, or_false] at h2
    rcases h2 with rfl | rfl <;> (simp only [enc1Ok, decide_eq_true_eq]; omega)
  unfold encOk itAV headAV tailAV; rw [List.all_append, List.all_append]
  show (_ && (hAV hs).all enc1Ok && _) = _
  rw [hh]
  simp [enc1Ok, itQ, zeroIt]
theorem itQ_sz (id til : Int) (name tag : ByteArray) (hs : List HRow) : itSz (itQ id til name tag hs) = 132 + (name.size + tag.size) + hsSz hs := by
  unfold itSz itQ zeroIt; have : ByteArray.empty.size = 0 := rfl; dsimp only; omega
theorem itQ_need {id til : Int} {name tag : ByteArray} {hs : List HRow} (h : name.size + tag.size + hsSz hs ≤ 20) : needN (recB (itQ id til name tag hs)).length ≤ 9 := Nat.le_trans (rec_need (z := 152) (by rw [itQ_sz]; omega)) (by decide)
set_option maxRecDepth 100000 in
set_option maxHeartbeats 4000000 in
theorem wakes20_spec {w0 w : World} {I : Imm} {L : Own} (hst : St w0 w I L) :
    Calls Try.prog 10 #[] w fun e w' => e = .returned (.bool true) ∧ ∃ I', I.le I' ∧ St w0 w' I' L := by
  refine enter Try.func10 rfl (N := 47) rfl rfl ?_
  simp only [List.zipIdx_cons, List.zipIdx_nil, List.map_cons, List.map_nil, Nat.zero_add, Nat.reduceAdd]
  have hle := Imm.le.refl I; refine CW.seq ?_; refine CW.region ?_; refine RW.op1 rfl (runs_assign rfl) ?_; refine RW.done ?_; refine AQ.next ?_; refine CW.seq ?_; refine CW.region ?_; refine RW.call rfl call4 rfl rfl (new_spec hst 514) ?_; rintro e w ⟨_, Ld, rfl, _, hstn, hd, a1, rfl⟩; clear hst; have hst := hstn; clear hstn; rw [newR_L] at hd; refine ⟨_, rfl, ?_⟩; refine RW.op1 rfl (runs_assign rfl) ?_; refine RW.done ?_; refine AQ.next ?_; refine CW.seq ?_; refine CW.seq ?_; refine CW.region ?_; refine RW.op1 rfl (runs_move rfl) ?_; refine RW.op1 rfl (runs_eq_nilptr Try.underlying23 rfl) ?_; refine RW.done ?_; refine AQ.next ?_; refine CW.cond rfl (fun hc => absurd hc (by rw [(show (Option.isNone (some a1)) = false from rfl)]; decide)) (fun hc => ?_); refine CW.skip ?_; refine AQ.next ?_; refine CW.seq ?_; refine CW.region ?_; refine RW.op1 rfl (runs_move rfl) ?_; refine RW.call rfl call6 rfl rfl (sopen_none hd hst) ?_; rintro e w ⟨J10, Ld1, hJ10, rfl, hstn, hd1⟩; clear hst; have hst := hstn; clear hstn; replace hle := hle.trans hJ10; refine ⟨_, rfl, ?_⟩; refine RW.op1 rfl (runs_move rfl) ?_; refine RW.op1 rfl (runs_extract rfl rfl) ?_; refine RW.op1 rfl (runs_extract rfl rfl) ?_; refine RW.op1 rfl (runs_assign rfl) ?_; refine RW.op1 rfl (runs_assign rfl) ?_; refine RW.done ?_; refine AQ.next ?_; refine CW.seq ?_; refine CW.seq ?_; refine CW.region ?_; refine RW.op1 rfl (runs_move rfl) ?_; refine RW.op1 rfl (runs_neI rfl rfl) ?_; refine RW.op1 rfl (runs_move rfl) ?_
  have hk15 := (show decide ((3 : Int) ≠ 3) = false by decide); refine RW.on_guard rfl rfl rfl rfl hk15 ?_; refine RW.op1 rfl (runs_move rfl) ?_; refine RW.on_guard rfl rfl rfl rfl hk15 ?_; refine RW.call rfl call5 rfl rfl (sformat_up hd1 hst ⟨rfl, rfl⟩ (List.length_replicate ..) (Nat.zero_le _)) ?_; rintro e w ⟨J17, Ld2, S2, hJ17, rfl, hstn, hd2, hu2, hp2, hdi2⟩; clear hst; have hst := hstn; clear hstn; replace hle := hle.trans hJ17; refine ⟨_, rfl, ?_⟩; refine RW.on_guard rfl rfl rfl rfl hk15 ?_; refine RW.op1 rfl (runs_neI rfl rfl) ?_; refine RW.op1 rfl (runs_pick_false rfl hk15 rfl) ?_; refine RW.done ?_; refine AQ.next ?_; refine CW.cond rfl (fun hc => absurd hc (by decide)) (fun hc => ?_); refine CW.skip ?_; refine AQ.next ?_; refine CW.seq ?_; refine CW.region ?_; refine RW.op1 rfl (runs_move rfl) ?_; refine RW.call rfl call6 rfl rfl (sopen_sto hd2 hst hu2 hp2 hdi2 SI.nil TbI.nil (c := 5) (by decide) (by decide)) ?_; rintro e w ⟨J22, Ld3, lb, bT, bS, rows, S3, Lt, hJ22, rfl, hstn, hd3, hso, hse⟩; clear hst; have hst := hstn; clear hstn; have hem := seq_nil hse hso.ti.nd; replace hle := hle.trans hJ22; refine ⟨_, rfl, ?_⟩; refine RW.op1 rfl (runs_move rfl) ?_; refine RW.op1 rfl (runs_extract rfl rfl) ?_; refine RW.op1 rfl (runs_extract rfl rfl) ?_; refine RW.op1 rfl (runs_assign rfl) ?_; refine RW.op1 rfl (runs_assign rfl) ?_; refine RW.done ?_; refine AQ.next ?_; refine CW.seq ?_; refine CW.region ?_; refine RW.op1 rfl (runs_move rfl) ?_
  refine RW.op1 rfl (runs_eqI rfl rfl) ?_; refine RW.op1 rfl (runs_move rfl) ?_; have hk27 := (show decide ((0 : Int) = 0) = true by decide); refine RW.on_guard rfl rfl rfl rfl hk27 ?_; refine RW.op1 rfl (runs_move rfl) ?_; refine RW.on_guard rfl rfl rfl rfl hk27 ?_; refine RW.op1 rfl (runs_ne_nilptr Try.underlying27 rfl) ?_; refine RW.op1 rfl (runs_pick_true rfl hk27 rfl) ?_; refine RW.op1 rfl (runs_move rfl) ?_; have hk31 := (show (!(Option.isNone (some (⟨bS, 0, none⟩ : Addr)))) = true from rfl); refine RW.on_guard rfl rfl rfl rfl hk31 ?_; refine RW.op1 rfl (runs_move rfl) ?_; refine RW.on_guard rfl rfl rfl rfl hk31 ?_; refine RW.call rfl call9 rfl rfl (snext_spec hso.tb (stateT hst)) ?_; rintro e w ⟨rfl, hstn⟩; clear hst; have hst := hstn; clear hstn; replace hst := stateB hst; refine ⟨_, rfl, ?_⟩; refine RW.on_guard rfl rfl rfl rfl hk31 ?_; refine RW.op1 rfl (runs_eqI rfl rfl) ?_; refine RW.op1 rfl (runs_pick_true rfl hk31 rfl) ?_; refine RW.op1 rfl (runs_move rfl) ?_; have hk36 := (show decide ((1 : Int) = 1) = true by decide); refine RW.on_guard rfl rfl rfl rfl hk36 ?_; refine RW.op1 rfl (runs_move rfl) ?_; refine RW.on_guard rfl rfl rfl rfl hk36 ?_; refine RW.op1 rfl (runs_buildF (cells := [_, _, _, _, _, _, _, _, _, _, _, _, _, _, _, _, _, _, _, _, _, _, _, _, _]) bz38 rfl rfl rfl rfl rfl) ?_; refine RW.on_guard rfl rfl rfl rfl hk36 ?_
  refine RW.call rfl call7 rfl rfl (sput_up hd3 hst hso (by decide) (it := itQ 1 0 ⟨#[120]⟩ .empty []) (vh := .slice none 0 0) (RdH.nil _) (itQ_ok (by unfold i64ok; decide) (by unfold i64ok; decide) (by decide)) ((itQ_enc (by simp)).trans (by decide)) (Room.put hso.ti (itQ_ok (by unfold i64ok; decide) (by unfold i64ok; decide) (by decide)) ((itQ_enc (by simp)).trans (by decide)) (by decide) (by decide) (by decide) (m := 9) (by decide) (by rw [hem]; simp) (itQ_need (by decide)) (by rw [hem]; decide) (by rw [hem]; decide))) ?_; rintro e w ⟨J39, Ld39, S39, G39, bs39, rows39, next39, Lt39, hJ39, rfl, hstn, hd39, hso39, hab39, hnx39, hto39⟩; clear hst; have hst := hstn; clear hstn; replace hso := hso.mono hJ39; replace hle := hle.trans hJ39; refine ⟨_, rfl, ?_⟩; refine RW.on_guard rfl rfl rfl rfl hk36 ?_; refine RW.op1 rfl (runs_eqI rfl rfl) ?_; refine RW.op1 rfl (runs_pick_true rfl hk36 rfl) ?_; refine RW.op1 rfl (runs_move rfl) ?_; have hk42 := (show decide ((0 : Int) = 0) = true by decide); refine RW.on_guard rfl rfl rfl rfl hk42 ?_; refine RW.op1 rfl (runs_move rfl) ?_; refine RW.on_guard rfl rfl rfl rfl hk42 ?_; refine RW.call rfl call9 rfl rfl (snext_spec hso39.tb (stateT hst)) ?_; rintro e w ⟨rfl, hstn⟩; clear hst; have hst := hstn; clear hstn; replace hst := stateB hst; refine ⟨_, rfl, ?_⟩; refine RW.on_guard rfl rfl rfl rfl hk42 ?_; refine RW.op1 rfl (runs_eqI rfl rfl) ?_; refine RW.op1 rfl (runs_pick_true rfl hk42 rfl) ?_; refine RW.op1 rfl (runs_assign rfl) ?_
  refine RW.done ?_; refine AQ.next ?_; refine CW.ret ?_; refine AQ.ret1 rfl rfl ?_; refine ⟨?_, _, hle, ((hst.drop1.drop1).sub (List.sublist_append_right _ _)).sub (List.sublist_append_right _ _)⟩; rw [hnx39, nextR_of (by unfold i64ok; decide)]
  rfl
end Go.Proofs.YtadgbifmiooikaaX
namespace Go.Proofs.YtadgbifmiooikaaX
set_option linter.unusedVariables false
set_option linter.unusedSimpArgs false
open Go Go.RowKit Go.Proofs
theorem absT_isN {rows : List TRow} {k : Int} (h : pget (absT rows) k = none) : (pget rows k).isSome = false := by
  rw [absT_get] at h
  cases hp : pget rows k with
  | none => rfl
  | some p => rw [hp] at h; cases h
theorem absT_isS {rows : List TRow} {k : Int} {it : It} (h : pget (absT rows) k = some it) : (pget rows k).isSome = true ∧ ((pget rows k).map Prod.fst).getD zeroIt = it := by
  rw [absT_get] at h
  cases hp : pget rows k with
  | none => rw [hp] at h; cases h
  | some p =>
    rw [hp] at h
    cases h
    exact ⟨rfl, rfl⟩
end Go.Proofs.YtadgbifmiooikaaX
