/- The law PipeMore. -/
import Derived.Test.YtoockflaeaknbaaMsM
namespace Go.MP
open Go Go.Sx Go.Proofs
set_option linter.unusedVariables false
set_option linter.unusedSimpArgs false
noncomputable section
theorem bent_same {mode : Int} (hm : mode = 1 ∨ mode = 2 ∨ mode = 3) {mu b : R2} {o : Int} {x y : H4} (hu : OkMu mu) (hb : OkB b) (h : Above x y) : Above (bentS mode mu b o x) (bentS mode mu b o y) := by
  rcases hm with rfl | rfl | rfl
  · exact bent_same_up hu hb h
  · exact bent_same_down hu hb h
  · rw [bent3, bent3]; exact h
theorem rub_same {mode : Int} (hm : mode = 1 ∨ mode = 2 ∨ mode = 3) {a b o : Int} {x y : H4} (h : Above x y) : Above (rubS mode a b o x) (rubS mode a b o y) := by
  obtain ⟨h1, h2⟩ := h
  rcases hm with rfl | rfl | rfl
  · rw [rub1, rub1]; exact ⟨by dsimp only; omega, by dsimp only; omega⟩
  · rw [rub2, rub2]; exact ⟨by dsimp only; omega, by dsimp only; omega⟩
  · rw [rub3, rub3]; exact ⟨h1, h2⟩
def bitC (c : Cs) (f : Int) : Cs := (c.1, c.2.1, c.2.2.1, f)
theorem more_bit {l : List Tb} {p : Pth} {c : Cs} {f : Int} (hc : CaseOk l c) (m : List Pc) (b : Int) (x y : H4) (hm : m.length ≤ 160) (hch : Chain l p b m) (h : Above x y)
    (hx : (runS l p c b x m).1 = true) (hy : (runS l p (bitC c f) b y m).1 = true) : AllB RAbove (runS l p c b x m).2.1 (runS l p (bitC c f) b y m).2.1 := by
  refine runs_rel (fun _ x y => Above x y) RAbove ?_ m 0 b x y (by omega) hch h hx hy
  intro n b q x y hn hb hl ht hmm hw hg hI _ _ _
  have hmode : c.1 = 1 ∨ c.1 = 2 ∨ c.1 = 3 := by have := hc.mode; omega
  have h1 : Above (step1 l p c b q x) (step1 l p (bitC c f) b q y) := by
    rw [step1_eq, step1_eq]
    split
    · rename_i e
      exact bent_same hmode hc.mu (hb e.1 e.2) hI
    · exact hI
  have h3 : Above (step3 l p c q (step2 l p c q (step1 l p c b q x))) (step3 l p (bitC c f) q (step2 l p (bitC c f) q (step1 l p (bitC c f) b q y))) :=
    rub_same hmode (hung_above h1)
  exact ⟨h3, h3⟩
theorem more_bit' {l : List Tb} {p : Pth} {c : Cs} {f : Int} (hc : CaseOk l c) (m : List Pc) (b : Int) (x y : H4) (hm : m.length ≤ 160) (hch : Chain l p b m) (h : Above y x)
    (hx : (runS l p c b x m).1 = true) (hy : (runS l p (bitC c f) b y m).1 = true) : AllB (fun a b => RAbove b a) (runS l p c b x m).2.1 (runS l p (bitC c f) b y m).2.1 := by
  refine runs_rel (fun _ x y => Above y x) (fun a b => RAbove b a) ?_ m 0 b x y (by omega) hch h hx hy
  intro n b q x y hn hb hl ht hmm hw hg hI _ _ _
  have hmode : c.1 = 1 ∨ c.1 = 2 ∨ c.1 = 3 := by have := hc.mode; omega
  have h1 : Above (step1 l p (bitC c f) b q y) (step1 l p c b q x) := by
    rw [step1_eq, step1_eq]
    split
    · rename_i e
      exact bent_same hmode hc.mu (hb e.1 e.2) hI
    · exact hI
  have h3 : Above (step3 l p (bitC c f) q (step2 l p (bitC c f) q (step1 l p (bitC c f) b q y))) (step3 l p c q (step2 l p c q (step1 l p c b q x))) :=
    rub_same hmode (hung_above h1)
  exact ⟨h3, h3⟩
def mudC (c : Cs) (m : Int) : Cs := (1, m, c.2.2)
def RHi (a b : Hg) : Prop := b.2.1.2 ≤ a.2.1.2
theorem more_mud {l : List Tb} {p : Pth} {c : Cs} {mud : Int} (hc : CaseOk l (modeC c 1)) (hd : CaseOk l (mudC c mud)) (hle : c.2.1 ≤ mud) (hz : ∀ v ∈ p.2, 0 ≤ v.2.2) (m : List Pc) (b : Int) (x y : H4) (hm : m.length ≤ 160) (hch : Chain l p b m) (h : y.2.1 ≤ x.2.1)
    (hx : (runS l p (modeC c 1) b x m).1 = true) (hy : (runS l p (mudC c mud) b y m).1 = true) : AllB RHi (runS l p (modeC c 1) b x m).2.1 (runS l p (mudC c mud) b y m).2.1 := by
  refine runs_rel (fun _ x y => y.2.1 ≤ x.2.1) RHi ?_ m 0 b x y (by omega) hch h hx hy
  intro n b q x y hn hb hl ht hmm hw hg hI _ _ _
  have hpc := pc_ok hc hl ht hmm hw (b := b)
  have hpd := pc_ok hd hl ht hmm hw (b := b)
  have hn0 := hl.2.1
  obtain ⟨s1, s2, s3, s4⟩ := side_rng hl
  have hwle : pcW l (mudC c mud) q ≤ pcW l (modeC c 1) q := by
    have e1 := (ht.wet hc.mud.1 hc.mud.2).1
    have e2 := (ht.wet hd.mud.1 hd.mud.2).1
    show wetS (pcT l q) mud * (q.2.2.2 - q.2.2.1) ≤ wetS (pcT l q) c.2.1 * (q.2.2.2 - q.2.2.1)
    refine Int.mul_le_mul_of_nonneg_right ?_ (by omega)
    have e1' : wetS (pcT l q) c.2.1 = (pcT l q).2.2.1 - c.2.1 * (pcT l q).2.2.2.1 := e1
    have e2' : wetS (pcT l q) mud = (pcT l q).2.2.1 - mud * (pcT l q).2.2.2.1 := e2
    have := Int.mul_le_mul_of_nonneg_right hle (show 0 ≤ (pcT l q).2.2.2.1 by have := ht.ste; omega)
    omega
  have h1 : (step1 l p (mudC c mud) b q y).2.1 ≤ (step1 l p (modeC c 1) b q x).2.1 := by
    rw [step1_eq, step1_eq]
    split
    · rename_i e
      obtain ⟨k1, k2⟩ := hc.mu.k (hb e.1 e.2)
      show (bentS 1 _ _ _ y).2.1 ≤ (bentS 1 _ _ _ x).2.1
      rw [bent1, bent1]
      exact addUp hI k2.1 (Int.le_refl _) k2.2
    · exact hI
  have hwz : pcW l (mudC c mud) q * (pcV p q).2.2 ≤ pcW l (modeC c 1) q * (pcV p q).2.2 := Int.mul_le_mul_of_nonneg_right hwle (hz _ hg)
  have h2 : (step2 l p (mudC c mud) q (step1 l p (mudC c mud) b q y)).2.1 ≤ (step2 l p (modeC c 1) q (step1 l p (modeC c 1) b q x)).2.1 := by
    have := up_mono' hwz (n := (wholeS (pcV p q)).1) (by omega)
    show (step1 l p (mudC c mud) b q y).2.1 + upS _ _ ≤ (step1 l p (modeC c 1) b q x).2.1 + upS _ _
    omega
  have hu := (hpd.rub hd.mu).2.2.2.2.1
  have hhi : rubHi l p (mudC c mud) q ≤ rubHi l p (modeC c 1) q := by
    have w2 : pcW l (mudC c mud) q * (sideS (pcV p q)).2 ≤ pcW l (modeC c 1) q * (sideS (pcV p q)).2 := Int.mul_le_mul_of_nonneg_right hwle (by omega)
    have w3 := up_mono' w2 (n := (wholeS (pcV p q)).1) (by omega)
    have w4 : upS (pcW l (mudC c mud) q * (sideS (pcV p q)).2) (wholeS (pcV p q)).1 * c.2.2.1.2 ≤ upS (pcW l (modeC c 1) q * (sideS (pcV p q)).2) (wholeS (pcV p q)).1 * c.2.2.1.2 := Int.mul_le_mul_of_nonneg_right w3 (by have := hc.mu.1; have := hc.mu.2.1; exact Int.le_trans hc.mu.1 hc.mu.2.1)
    exact up_mono' w4 (by decide)
  have h3 : (step3 l p (mudC c mud) q (step2 l p (mudC c mud) q (step1 l p (mudC c mud) b q y))).2.1 ≤ (step3 l p (modeC c 1) q (step2 l p (modeC c 1) q (step1 l p (modeC c 1) b q x))).2.1 := by
    show (rubS 1 _ _ _ _).2.1 ≤ (rubS 1 _ _ _ _).2.1
    rw [rub1, rub1]
    show _ + rubHi l p (mudC c mud) q ≤ _ + rubHi l p (modeC c 1) q
    omega
  exact ⟨h3, h3⟩
def allZ (l : List V) : Bool := l.all fun v => decide (v.2.2 ≥ 0)
theorem allZ_step {l : List V} {i : Int} (h0 : 0 ≤ i) (h : i < l.length) : allZ (l.drop i.toNat) = (decide ((l.getD i.toNat zV).2.2 ≥ 0) && allZ (l.drop (i + 1).toNat)) := by
  rw [drop_step zV h0 h]; rfl
def MoreOk (mode : Int) (a b : List Hg) : Prop := a.length = b.length ∧ ∀ i : Nat, i < a.length → (mode = 1 → (a.getD i (0, (0, 0), (0, 0))).2.1.1 ≤ (b.getD i (0, (0, 0), (0, 0))).2.1.1 ∧ (a.getD i (0, (0, 0), (0, 0))).2.1.2 ≤ (b.getD i (0, (0, 0), (0, 0))).2.1.2) ∧ (mode ≠ 1 → (b.getD i (0, (0, 0), (0, 0))).2.1.1 ≤ (a.getD i (0, (0, 0), (0, 0))).2.1.1 ∧ (b.getD i (0, (0, 0), (0, 0))).2.1.2 ≤ (a.getD i (0, (0, 0), (0, 0))).2.1.2)
theorem bit_ok {l : List Tb} {p : Pth} {c : Cs} {f : Int} (hf : c.2.2.2 ≤ f) (ha : (loadsS l p c).1 ≠ []) (hb : (loadsS l p (bitC c f)).1 ≠ []) : MoreOk c.1 (loadsS l p c).1 (loadsS l p (bitC c f)).1 ∧ (loadsS l p c).1.length ≤ 160 := by
  obtain ⟨hfit, ca, ra, ea⟩ := loads_run ha
  obtain ⟨_, cb, rb, eb⟩ := loads_run hb
  have hc := (caseS_ok ca).2
  have hm := pcsS_few hfit
  have hch := chain_all hfit
  have hl : (loadsS l p c).1.length ≤ 160 := by rw [ea, (runS_len _ _ _ _ _ _ ra).1]; exact hm
  refine ⟨?_, hl⟩
  by_cases h1 : c.1 = 1
  · have hr := more_bit' hc _ _ _ _ hm hch (by
      unfold startS
      rw [if_pos h1, if_pos (show (bitC c f).1 = 1 from h1)]
      exact ⟨hf, hf⟩) ra rb
    rw [← ea, ← eb] at hr
    exact ⟨hr.1, fun i hi => ⟨fun _ => hr.2 i hi, fun h => absurd h1 h⟩⟩
  · have hr := more_bit hc _ _ _ _ hm hch (by
      unfold startS
      rw [if_neg h1, if_neg (show ¬ (bitC c f).1 = 1 from h1)]
      exact ⟨by show -f ≤ -c.2.2.2; omega, by show -f ≤ -c.2.2.2; omega⟩) ra rb
    rw [← ea, ← eb] at hr
    exact ⟨hr.1, fun i hi => ⟨fun h => absurd h h1, fun _ => hr.2 i hi⟩⟩
def MudOk (u w : List Hg) : Prop := ∀ i : Nat, i < u.length → i < w.length → (w.getD i (0, (0, 0), (0, 0))).2.1.2 ≤ (u.getD i (0, (0, 0), (0, 0))).2.1.2
theorem loads_few {l : List Tb} {p : Pth} {c : Cs} : (loadsS l p c).1.length ≤ 160 := by
  by_cases h : (loadsS l p c).1 = []
  · rw [h]; decide
  · obtain ⟨hfit, ca, ra, ea⟩ := loads_run h
    rw [ea, (runS_len _ _ _ _ _ _ ra).1]
    exact pcsS_few hfit
theorem mud_ok {l : List Tb} {p : Pth} {c : Cs} {mud : Int} (hle : c.2.1 ≤ mud) (hz : ∀ v ∈ p.2, 0 ≤ v.2.2) : MudOk (loadsS l p (modeC c 1)).1 (loadsS l p (mudC c mud)).1 := by
  intro i hi hj
  have ha : (loadsS l p (modeC c 1)).1 ≠ [] := fun e => by rw [e] at hi; cases hi
  have hb : (loadsS l p (mudC c mud)).1 ≠ [] := fun e => by rw [e] at hj; cases hj
  obtain ⟨hfit, ca, ra, ea⟩ := loads_run ha
  obtain ⟨_, cb, rb, eb⟩ := loads_run hb
  have hr := more_mud (caseS_ok ca).2 (caseS_ok cb).2 hle hz _ _ (startS (modeC c 1)) (startS (mudC c mud)) (pcsS_few hfit) (chain_all hfit) (Int.le_refl _) ra rb
  rw [← ea, ← eb] at hr
  exact hr.2 i hi
def L_PipeMore0 : Lay := { slots := [(1, .val tI), (2, .val tI), (7, .ptr 8184 0), (8, .ptr 9184 0), (9, .ptr 10184 0), (10, .val .bool), (11, .val tI)], boxes := [(8184, [.val tI, .val tI, .val tI, .val tVs]), (9184, [.val tTs]), (10184, [.val tI, .val tI, .val tI, .val tI, .val tI])] }
def L_PipeMore0_0 : Lay := { slots := [(1, .val tI), (2, .val tI), (7, .ptr 8184 0), (8, .ptr 9184 0), (9, .ptr 10184 0), (10, .val .bool)], boxes := [(8184, [.val tI, .val tI, .val tI, .val tVs]), (9184, [.val tTs]), (10184, [.val tI, .val tI, .val tI, .val tI, .val tI])] }
def X_PipeMore0 : Exit → St → Option Lay
  | .exit 0, _ => some L_PipeMore0_0
  | _, _ => none
abbrev C_PipeMore0 : Code := loopC (bodyOf Try.f5) 0
theorem B_PipeMore0 (bit mud : Int) (ok : Bool) (i p_0 p_1 p_2 : Int) (p_3 : List V) (l_0 : List Tb) (c_0 c_1 c_2 c_3 c_4 : Int) : loopBodyA (P := P) [] (lpOf []) [] 184 noU (inner C_PipeMore0) L_PipeMore0 X_PipeMore0 (α := Int × Int × Unit × Unit × Unit × Bool × Int × Int × Int × Int × List V × List Tb × Int × Int × Int × Int × Int × Unit) (fun x => x) (fun x => x) (bit, mud, (), (), (), ok, i, p_0, p_1, p_2, p_3, l_0, c_0, c_1, c_2, c_3, c_4, ()) =
  Tree.cond (decide (i < (↑(List.length p_3) : Int))) (Tree.cond ok (Tree.need ((0 : Int) ≤ i ∧ i < (↑(List.length p_3) : Int)) (Tree.leaf (Sum.inl (bit, mud, PUnit.unit, PUnit.unit, PUnit.unit, decide ((List.getD p_3 (Int.toNat i) ((0 : Int), (0 : Int), (0 : Int))).snd.snd ≥ (0 : Int)), IntKind.wrap IntKind.i64 (i + (1 : Int)), p_0, p_1, p_2, p_3, l_0, c_0, c_1, c_2, c_3, c_4, PUnit.unit)))) (Tree.leaf (Sum.inl (bit, mud, PUnit.unit, PUnit.unit, PUnit.unit, false, IntKind.wrap IntKind.i64 (i + (1 : Int)), p_0, p_1, p_2, p_3, l_0, c_0, c_1, c_2, c_3, c_4, PUnit.unit)))) (Tree.leaf (Sum.inr (Exit.exit (0 : Nat), Lay.st L_PipeMore0_0 noU (bit, mud, PUnit.unit, PUnit.unit, PUnit.unit, ok, p_0, p_1, p_2, p_3, l_0, c_0, c_1, c_2, c_3, c_4, PUnit.unit)))) := by kernel_rfl
def inv_PipeMore0 : Int × Int × Unit × Unit × Unit × Bool × Int × Int × Int × Int × List V × List Tb × Int × Int × Int × Int × Int × Unit → Prop := fun (bit, mud, (), (), (), ok, i, p_0, p_1, p_2, p_3, l_0, c_0, c_1, c_2, c_3, c_4, ()) => 0 ≤ i ∧ i ≤ p_3.length ∧ p_3.length ≤ 20
def O_PipeMore0 : Int × Int × Unit × Unit × Unit × Bool × Int × Int × Int × Int × List V × List Tb × Int × Int × Int × Int × Int × Unit → Tree (Exit × St) := fun (bit, mud, (), (), (), ok, i, p_0, p_1, p_2, p_3, l_0, c_0, c_1, c_2, c_3, c_4, ()) => (.leaf (.exit 0, L_PipeMore0_0.st noU (bit, mud, (), (), (), (ok && allZ (p_3.drop i.toNat)), p_0, p_1, p_2, p_3, l_0, c_0, c_1, c_2, c_3, c_4, ())))
def R_PipeMore0 : LRun := runOf 184 L_PipeMore0 (fun x => x) (inv_PipeMore0) (O_PipeMore0)
theorem K_PipeMore0 : LoopOk P [] 184 none noU C_PipeMore0 (R_PipeMore0) := by
  refine loop_of hm (cx := []) [] (xl := X_PipeMore0) (α := Int × Int × Unit × Unit × Unit × Bool × Int × Int × Int × Int × List V × List Tb × Int × Int × Int × Int × Int × Unit) (fun x => x) (fun (bit, mud, (), (), (), ok, i, p_0, p_1, p_2, p_3, l_0, c_0, c_1, c_2, c_3, c_4, ()) => (p_3.length - i).toNat) (fun _ => rfl) (by kernel_rfl) (by kernel_rfl) ?_ (by kernel_rfl) trivial ?_
  · intro e S L' h
    unfold X_PipeMore0 at h
    split at h <;> first | (cases h; done) | (cases h; kernel_rfl) | (rcases bif_some h with h | h <;> cases h <;> kernel_rfl)
  · rintro ⟨bit, mud, ⟨⟩, ⟨⟩, ⟨⟩, ok, i, p_0, p_1, p_2, p_3, l_0, c_0, c_1, c_2, c_3, c_4, ⟨⟩⟩ hinv Q hQ
    refine hold_of_eq (B_PipeMore0 bit mud ok i p_0 p_1 p_2 p_3 l_0 c_0 c_1 c_2 c_3 c_4) ?_
    obtain ⟨h0, h1, h2⟩ := hinv
    rw [W_id (n := i + 1) (by omega) (by omega)]
    unfold O_PipeMore0 at hQ
    dsimp only at hQ
    refine ⟨fun c1 => ?_, fun c1 => ?_⟩
    · have c1 := of_decide_eq_true c1
      have hm : ((p_3.length : Int) - (i + 1)).toNat < ((p_3.length : Int) - i).toNat := by omega
      rw [allZ_step h0 c1] at hQ
      refine ⟨fun c2 => ⟨⟨h0, c1⟩, ?_⟩, fun c2 => ?_⟩
      · rw [c2, Bool.true_and] at hQ
        exact ⟨⟨⟨by omega, by omega, h2⟩, hm⟩, hQ⟩
      · rw [c2, Bool.false_and] at hQ
        exact ⟨⟨⟨by omega, by omega, h2⟩, hm⟩, by show Tree.holds Q (Tree.leaf _); rw [Bool.false_and]; exact hQ⟩
    · have c1 := of_decide_eq_false c1
      rw [drop_end c1, show allZ [] = true from rfl, Bool.and_true] at hQ
      exact hQ
def L_PipeMore2 : Lay := { slots := [(2, .val tI), (7, .ptr 8184 0), (8, .ptr 9184 0), (9, .ptr 10184 0), (13, .val (.sl (.pair tI (.pair tPart tPart)))), (14, .val (.sl (.pair tI (.pair tPart tPart)))), (15, .val tI)], boxes := [(8184, [.val tI, .val tI, .val tI, .val tVs]), (9184, [.val tTs]), (10184, [.val tI, .val tI, .val tI, .val tI, .val tI])] }
def L_PipeMore2_0 : Lay := { slots := [(6, .val .bool)] }
def L_PipeMore2_1 : Lay := { slots := [(2, .val tI), (7, .ptr 8184 0), (8, .ptr 9184 0), (9, .ptr 10184 0), (13, .val (.sl (.pair tI (.pair tPart tPart)))), (14, .val (.sl (.pair tI (.pair tPart tPart))))], boxes := [(8184, [.val tI, .val tI, .val tI, .val tVs]), (9184, [.val tTs]), (10184, [.val tI, .val tI, .val tI, .val tI, .val tI])] }
def X_PipeMore2 : Exit → St → Option Lay
  | .ret, _ => some L_PipeMore2_0
  | .exit 2, _ => some L_PipeMore2_1
  | _, _ => none
abbrev C_PipeMore2 : Code := loopC (bodyOf Try.f5) 2
theorem B_PipeMore2 (mud : Int) (a b : List (Int × ((Int × Int) × (Int × Int)))) (i p_0 p_1 p_2 : Int) (p_3 : List V) (l_0 : List Tb) (c_0 c_1 c_2 c_3 c_4 : Int) : loopBodyA (P := P) [] (lpOf []) [] 184 noU (inner C_PipeMore2) L_PipeMore2 X_PipeMore2 (α := Int × Unit × Unit × Unit × List (Int × ((Int × Int) × (Int × Int))) × List (Int × ((Int × Int) × (Int × Int))) × Int × Int × Int × Int × List V × List Tb × Int × Int × Int × Int × Int × Unit) (fun x => x) (fun x => x) (mud, (), (), (), a, b, i, p_0, p_1, p_2, p_3, l_0, c_0, c_1, c_2, c_3, c_4, ()) =
  Tree.cond (decide (i < (↑(List.length a) : Int))) (Tree.cond (decide (i < (↑(List.length b) : Int))) (Tree.need ((0 : Int) ≤ i ∧ i < (↑(List.length a) : Int)) (Tree.need ((0 : Int) ≤ i ∧ i < (↑(List.length b) : Int)) (Tree.cond (c_0 == (1 : Int)) (Tree.cond (decide ((List.getD b (Int.toNat i) ((0 : Int), ((0 : Int), (0 : Int)), (0 : Int), (0 : Int))).snd.fst.fst < (List.getD a (Int.toNat i) ((0 : Int), ((0 : Int), (0 : Int)), (0 : Int), (0 : Int))).snd.fst.fst)) (Tree.leaf (Sum.inr (Exit.ret, Lay.st L_PipeMore2_0 noU (false, PUnit.unit)))) (Tree.cond (decide ((List.getD b (Int.toNat i) ((0 : Int), ((0 : Int), (0 : Int)), (0 : Int), (0 : Int))).snd.fst.snd < (List.getD a (Int.toNat i) ((0 : Int), ((0 : Int), (0 : Int)), (0 : Int), (0 : Int))).snd.fst.snd)) (Tree.leaf (Sum.inr (Exit.ret, Lay.st L_PipeMore2_0 noU (false, PUnit.unit)))) (Tree.cond (c_0 != (1 : Int)) (Tree.cond (decide ((List.getD b (Int.toNat i) ((0 : Int), ((0 : Int), (0 : Int)), (0 : Int), (0 : Int))).snd.fst.fst > (List.getD a (Int.toNat i) ((0 : Int), ((0 : Int), (0 : Int)), (0 : Int), (0 : Int))).snd.fst.fst)) (Tree.leaf (Sum.inr (Exit.ret, Lay.st L_PipeMore2_0 noU (false, PUnit.unit)))) (Tree.cond (decide ((List.getD b (Int.toNat i) ((0 : Int), ((0 : Int), (0 : Int)), (0 : Int), (0 : Int))).snd.fst.snd > (List.getD a (Int.toNat i) ((0 : Int), ((0 : Int), (0 : Int)), (0 : Int), (0 : Int))).snd.fst.snd)) (Tree.leaf (Sum.inr (Exit.ret, Lay.st L_PipeMore2_0 noU (false, PUnit.unit)))) (Tree.leaf (Sum.inl (mud, PUnit.unit, PUnit.unit, PUnit.unit, a, b, IntKind.wrap IntKind.i64 (i + (1 : Int)), p_0, p_1, p_2, p_3, l_0, c_0, c_1, c_2, c_3, c_4, PUnit.unit))))) (Tree.leaf (Sum.inl (mud, PUnit.unit, PUnit.unit, PUnit.unit, a, b, IntKind.wrap IntKind.i64 (i + (1 : Int)), p_0, p_1, p_2, p_3, l_0, c_0, c_1, c_2, c_3, c_4, PUnit.unit)))))) (Tree.cond (c_0 != (1 : Int)) (Tree.cond (decide ((List.getD b (Int.toNat i) ((0 : Int), ((0 : Int), (0 : Int)), (0 : Int), (0 : Int))).snd.fst.fst > (List.getD a (Int.toNat i) ((0 : Int), ((0 : Int), (0 : Int)), (0 : Int), (0 : Int))).snd.fst.fst)) (Tree.leaf (Sum.inr (Exit.ret, Lay.st L_PipeMore2_0 noU (false, PUnit.unit)))) (Tree.cond (decide ((List.getD b (Int.toNat i) ((0 : Int), ((0 : Int), (0 : Int)), (0 : Int), (0 : Int))).snd.fst.snd > (List.getD a (Int.toNat i) ((0 : Int), ((0 : Int), (0 : Int)), (0 : Int), (0 : Int))).snd.fst.snd)) (Tree.leaf (Sum.inr (Exit.ret, Lay.st L_PipeMore2_0 noU (false, PUnit.unit)))) (Tree.leaf (Sum.inl (mud, PUnit.unit, PUnit.unit, PUnit.unit, a, b, IntKind.wrap IntKind.i64 (i + (1 : Int)), p_0, p_1, p_2, p_3, l_0, c_0, c_1, c_2, c_3, c_4, PUnit.unit))))) (Tree.leaf (Sum.inl (mud, PUnit.unit, PUnit.unit, PUnit.unit, a, b, IntKind.wrap IntKind.i64 (i + (1 : Int)), p_0, p_1, p_2, p_3, l_0, c_0, c_1, c_2, c_3, c_4, PUnit.unit))))))) (Tree.leaf (Sum.inr (Exit.exit (2 : Nat), Lay.st L_PipeMore2_1 noU (mud, PUnit.unit, PUnit.unit, PUnit.unit, a, b, p_0, p_1, p_2, p_3, l_0, c_0, c_1, c_2, c_3, c_4, PUnit.unit))))) (Tree.leaf (Sum.inr (Exit.exit (2 : Nat), Lay.st L_PipeMore2_1 noU (mud, PUnit.unit, PUnit.unit, PUnit.unit, a, b, p_0, p_1, p_2, p_3, l_0, c_0, c_1, c_2, c_3, c_4, PUnit.unit)))) := by kernel_rfl
def inv_PipeMore2 : Int × Unit × Unit × Unit × List (Int × ((Int × Int) × (Int × Int))) × List (Int × ((Int × Int) × (Int × Int))) × Int × Int × Int × Int × List V × List Tb × Int × Int × Int × Int × Int × Unit → Prop := fun (mud, (), (), (), a, b, i, p_0, p_1, p_2, p_3, l_0, c_0, c_1, c_2, c_3, c_4, ()) => 0 ≤ i ∧ i ≤ a.length ∧ a.length ≤ 160 ∧ a.length = b.length ∧ ∀ i : Nat, i < a.length → (c_0 = 1 → (a.getD i (0, (0, 0), (0, 0))).2.1.1 ≤ (b.getD i (0, (0, 0), (0, 0))).2.1.1 ∧ (a.getD i (0, (0, 0), (0, 0))).2.1.2 ≤ (b.getD i (0, (0, 0), (0, 0))).2.1.2) ∧ (c_0 ≠ 1 → (b.getD i (0, (0, 0), (0, 0))).2.1.1 ≤ (a.getD i (0, (0, 0), (0, 0))).2.1.1 ∧ (b.getD i (0, (0, 0), (0, 0))).2.1.2 ≤ (a.getD i (0, (0, 0), (0, 0))).2.1.2)
def O_PipeMore2 : Int × Unit × Unit × Unit × List (Int × ((Int × Int) × (Int × Int))) × List (Int × ((Int × Int) × (Int × Int))) × Int × Int × Int × Int × List V × List Tb × Int × Int × Int × Int × Int × Unit → Tree (Exit × St) := fun (mud, (), (), (), a, b, i, p_0, p_1, p_2, p_3, l_0, c_0, c_1, c_2, c_3, c_4, ()) => (.leaf (.exit 2, L_PipeMore2_1.st noU (mud, (), (), (), a, b, p_0, p_1, p_2, p_3, l_0, c_0, c_1, c_2, c_3, c_4, ())))
def R_PipeMore2 : LRun := runOf 184 L_PipeMore2 (fun x => x) (inv_PipeMore2) (O_PipeMore2)
theorem K_PipeMore2 : LoopOk P [] 184 none noU C_PipeMore2 (R_PipeMore2) := by
  refine loop_of hm (cx := []) [] (xl := X_PipeMore2) (α := Int × Unit × Unit × Unit × List (Int × ((Int × Int) × (Int × Int))) × List (Int × ((Int × Int) × (Int × Int))) × Int × Int × Int × Int × List V × List Tb × Int × Int × Int × Int × Int × Unit) (fun x => x) (fun (mud, (), (), (), a, b, i, p_0, p_1, p_2, p_3, l_0, c_0, c_1, c_2, c_3, c_4, ()) => (a.length - i).toNat) (fun _ => rfl) (by kernel_rfl) (by kernel_rfl) ?_ (by kernel_rfl) trivial ?_
  · intro e S L' h
    unfold X_PipeMore2 at h
    split at h <;> first | (cases h; done) | (cases h; kernel_rfl) | (rcases bif_some h with h | h <;> cases h <;> kernel_rfl)
  · rintro ⟨mud, ⟨⟩, ⟨⟩, ⟨⟩, a, b, i, p_0, p_1, p_2, p_3, l_0, c_0, c_1, c_2, c_3, c_4, ⟨⟩⟩ hinv Q hQ
    refine hold_of_eq (B_PipeMore2 mud a b i p_0 p_1 p_2 p_3 l_0 c_0 c_1 c_2 c_3 c_4) ?_
    obtain ⟨h0, h1, h2, h3, h4⟩ := hinv
    rw [W_id (n := i + 1) (by omega) (by omega)]
    refine ⟨fun c1 => ?_, fun c1 => hQ⟩
    have c1 := of_decide_eq_true c1
    refine ⟨fun c2 => ?_, fun c2 => hQ⟩
    have c2 := of_decide_eq_true c2
    obtain ⟨r1, r2⟩ := h4 i.toNat (by omega)
    have nx : roundB inv_PipeMore2 (fun (_, _, _, _, a, _, i, _) => (a.length - i).toNat) O_PipeMore2 Q (mud, (), (), (), a, b, i, p_0, p_1, p_2, p_3, l_0, c_0, c_1, c_2, c_3, c_4, ()) (Sum.inl (mud, (), (), (), a, b, i + 1, p_0, p_1, p_2, p_3, l_0, c_0, c_1, c_2, c_3, c_4, ())) :=
      ⟨⟨⟨by omega, by omega, h2, h3, h4⟩, by show ((a.length : Int) - (i + 1)).toNat < ((a.length : Int) - i).toNat; omega⟩, hQ⟩
    refine ⟨⟨h0, c1⟩, ⟨h0, c2⟩, fun c3 => ?_, fun c3 => ?_⟩
    · obtain ⟨q1, q2⟩ := r1 (eq_of_beq c3)
      exact ⟨fun d => absurd (of_decide_eq_true d) (by omega), fun _ => ⟨fun d => absurd (of_decide_eq_true d) (by omega), fun _ => ⟨fun d => absurd (eq_of_beq c3) (by simpa using d), fun _ => nx⟩⟩⟩
    · have c3 : c_0 ≠ 1 := by simpa using c3
      obtain ⟨q1, q2⟩ := r2 c3
      exact ⟨fun _ => ⟨fun d => absurd (of_decide_eq_true d) (by omega), fun _ => ⟨fun d => absurd (of_decide_eq_true d) (by omega), fun _ => nx⟩⟩, fun _ => nx⟩
def L_PipeMore4 : Lay := { slots := [(13, .val (.sl (.pair tI (.pair tPart tPart)))), (14, .val (.sl (.pair tI (.pair tPart tPart)))), (19, .val (.sl (.pair tI (.pair tPart tPart)))), (20, .val (.sl (.pair tI (.pair tPart tPart)))), (21, .val tI)] }
def L_PipeMore4_0 : Lay := { slots := [(6, .val .bool)] }
def L_PipeMore4_1 : Lay := { slots := [(13, .val (.sl (.pair tI (.pair tPart tPart)))), (14, .val (.sl (.pair tI (.pair tPart tPart))))] }
def X_PipeMore4 : Exit → St → Option Lay
  | .ret, _ => some L_PipeMore4_0
  | .exit 4, _ => some L_PipeMore4_1
  | _, _ => none
abbrev C_PipeMore4 : Code := loopC (bodyOf Try.f5) 4
theorem B_PipeMore4 (a b u w : List (Int × ((Int × Int) × (Int × Int)))) (i : Int) : loopBodyA (P := P) [] (lpOf []) [] 184 noU (inner C_PipeMore4) L_PipeMore4 X_PipeMore4 (α := List (Int × ((Int × Int) × (Int × Int))) × List (Int × ((Int × Int) × (Int × Int))) × List (Int × ((Int × Int) × (Int × Int))) × List (Int × ((Int × Int) × (Int × Int))) × Int × Unit) (fun x => x) (fun x => x) (a, b, u, w, i, ()) =
  Tree.cond (decide (i < (↑(List.length u) : Int))) (Tree.cond (decide (i < (↑(List.length w) : Int))) (Tree.need ((0 : Int) ≤ i ∧ i < (↑(List.length w) : Int)) (Tree.need ((0 : Int) ≤ i ∧ i < (↑(List.length u) : Int)) (Tree.cond (decide ((List.getD w (Int.toNat i) ((0 : Int), ((0 : Int), (0 : Int)), (0 : Int), (0 : Int))).snd.fst.snd > (List.getD u (Int.toNat i) ((0 : Int), ((0 : Int), (0 : Int)), (0 : Int), (0 : Int))).snd.fst.snd)) (Tree.leaf (Sum.inr (Exit.ret, Lay.st L_PipeMore4_0 noU (false, PUnit.unit)))) (Tree.leaf (Sum.inl (a, b, u, w, IntKind.wrap IntKind.i64 (i + (1 : Int)), PUnit.unit)))))) (Tree.leaf (Sum.inr (Exit.exit (4 : Nat), Lay.st L_PipeMore4_1 noU (a, b, PUnit.unit))))) (Tree.leaf (Sum.inr (Exit.exit (4 : Nat), Lay.st L_PipeMore4_1 noU (a, b, PUnit.unit)))) := by kernel_rfl
def inv_PipeMore4 : List (Int × ((Int × Int) × (Int × Int))) × List (Int × ((Int × Int) × (Int × Int))) × List (Int × ((Int × Int) × (Int × Int))) × List (Int × ((Int × Int) × (Int × Int))) × Int × Unit → Prop := fun (a, b, u, w, i, ()) => 0 ≤ i ∧ i ≤ u.length ∧ i ≤ w.length ∧ u.length ≤ 160 ∧ w.length ≤ 160 ∧ MudOk u w
def O_PipeMore4 : List (Int × ((Int × Int) × (Int × Int))) × List (Int × ((Int × Int) × (Int × Int))) × List (Int × ((Int × Int) × (Int × Int))) × List (Int × ((Int × Int) × (Int × Int))) × Int × Unit → Tree (Exit × St) := fun (a, b, u, w, i, ()) => (.leaf (.exit 4, L_PipeMore4_1.st noU (a, b, ())))
def R_PipeMore4 : LRun := runOf 184 L_PipeMore4 (fun x => x) (inv_PipeMore4) (O_PipeMore4)
theorem K_PipeMore4 : LoopOk P [] 184 none noU C_PipeMore4 (R_PipeMore4) := by
  refine loop_of hm (cx := []) [] (xl := X_PipeMore4) (α := List (Int × ((Int × Int) × (Int × Int))) × List (Int × ((Int × Int) × (Int × Int))) × List (Int × ((Int × Int) × (Int × Int))) × List (Int × ((Int × Int) × (Int × Int))) × Int × Unit) (fun x => x) (fun (a, b, u, w, i, ()) => (u.length - i).toNat) (fun _ => rfl) (by kernel_rfl) (by kernel_rfl) ?_ (by kernel_rfl) trivial ?_
  · intro e S L' h
    unfold X_PipeMore4 at h
    split at h <;> first | (cases h; done) | (cases h; kernel_rfl) | (rcases bif_some h with h | h <;> cases h <;> kernel_rfl)
  · rintro ⟨a, b, u, w, i, ⟨⟩⟩ hinv Q hQ
    refine hold_of_eq (B_PipeMore4 a b u w i) ?_
    obtain ⟨h0, h1, h2, h3, h4, h5⟩ := hinv
    rw [W_id (n := i + 1) (by omega) (by omega)]
    refine ⟨fun c1 => ?_, fun c1 => hQ⟩
    have c1 := of_decide_eq_true c1
    refine ⟨fun c2 => ?_, fun c2 => hQ⟩
    have c2 := of_decide_eq_true c2
    have r := h5 i.toNat (by omega) (by omega)
    exact ⟨⟨h0, c2⟩, ⟨h0, c1⟩, fun d => absurd (of_decide_eq_true d) (by omega), fun _ => ⟨⟨⟨by omega, by omega, by omega, h3, h4, h5⟩, by show ((u.length : Int) - (i + 1)).toNat < ((u.length : Int) - i).toNat; omega⟩, hQ⟩⟩
theorem T_PipeMore (s0 : List Int) (bit mud : Int) : fnTree (P := P) [c_made.gc, c_awake.gc, c_lawLoads.gc, c_Mod64.gc] (lpOf [(0, R_PipeMore0), (2, R_PipeMore2), (4, R_PipeMore4)]) Try.f5 (encL 0 [.val tIs, .val tI, .val tI] (s0, bit, mud, ())) =
  Tree.need (pr_made (s0, ())) (Tree.need (inv_PipeMore0 (bit, mud, (), (), (), (V_made (s0, ())).snd.snd.snd, (0 : Int), (V_made (s0, ())).fst.fst.fst, (V_made (s0, ())).fst.fst.snd.fst, (V_made (s0, ())).fst.fst.snd.snd, (V_made (s0, ())).fst.snd, (V_made (s0, ())).snd.fst, (V_made (s0, ())).snd.snd.fst.fst, (V_made (s0, ())).snd.snd.fst.snd.fst, (V_made (s0, ())).snd.snd.fst.snd.snd.fst.fst, (V_made (s0, ())).snd.snd.fst.snd.snd.fst.snd, (V_made (s0, ())).snd.snd.fst.snd.snd.snd, ())) (Tree.cond (!((V_made (s0, ())).snd.snd.snd && allZ (List.drop (Int.toNat (0 : Int)) (V_made (s0, ())).fst.snd))) (Tree.leaf (SV.bool true)) (Tree.need ((0 : Int) < (1073741824 : Int) ∧ R64 (1073741824 : Int)) (Tree.need ((↑(List.length (V_made (s0, ())).snd.fst) : Int) < (2 : Int) ^ (62 : Nat)) (Tree.need ((↑(List.length (V_made (s0, ())).snd.fst) : Int) < (2 : Int) ^ (62 : Nat)) (Tree.cond ((↑(List.length (loadsS (V_made (s0, ())).snd.fst (V_made (s0, ())).fst (modeC (V_made (s0, ())).snd.snd.fst (V_made (s0, ())).snd.snd.fst.fst)).fst) : Int) == (0 : Int)) (Tree.leaf (SV.bool true)) (Tree.cond ((↑(List.length (loadsS (V_made (s0, ())).snd.fst (V_made (s0, ())).fst (modeC ((V_made (s0, ())).snd.snd.fst.fst, (V_made (s0, ())).snd.snd.fst.snd.fst, (V_made (s0, ())).snd.snd.fst.snd.snd.fst, IntKind.wrap IntKind.i64 ((V_made (s0, ())).snd.snd.fst.snd.snd.snd + bit % (1073741824 : Int))) (V_made (s0, ())).snd.snd.fst.fst)).fst) : Int) == (0 : Int)) (Tree.leaf (SV.bool true)) (Tree.need (inv_PipeMore2 (mud, (), (), (), (loadsS (V_made (s0, ())).snd.fst (V_made (s0, ())).fst (modeC (V_made (s0, ())).snd.snd.fst (V_made (s0, ())).snd.snd.fst.fst)).fst, (loadsS (V_made (s0, ())).snd.fst (V_made (s0, ())).fst (modeC ((V_made (s0, ())).snd.snd.fst.fst, (V_made (s0, ())).snd.snd.fst.snd.fst, (V_made (s0, ())).snd.snd.fst.snd.snd.fst, IntKind.wrap IntKind.i64 ((V_made (s0, ())).snd.snd.fst.snd.snd.snd + bit % (1073741824 : Int))) (V_made (s0, ())).snd.snd.fst.fst)).fst, (0 : Int), (V_made (s0, ())).fst.fst.fst, (V_made (s0, ())).fst.fst.snd.fst, (V_made (s0, ())).fst.fst.snd.snd, (V_made (s0, ())).fst.snd, (V_made (s0, ())).snd.fst, (V_made (s0, ())).snd.snd.fst.fst, (V_made (s0, ())).snd.snd.fst.snd.fst, (V_made (s0, ())).snd.snd.fst.snd.snd.fst.fst, (V_made (s0, ())).snd.snd.fst.snd.snd.fst.snd, (V_made (s0, ())).snd.snd.fst.snd.snd.snd, ())) (Tree.need ((0 : Int) < (10000 : Int) ∧ R64 (10000 : Int)) (Tree.need ((↑(List.length (V_made (s0, ())).snd.fst) : Int) < (2 : Int) ^ (62 : Nat)) (Tree.need ((↑(List.length (V_made (s0, ())).snd.fst) : Int) < (2 : Int) ^ (62 : Nat)) (Tree.need (inv_PipeMore4 ((loadsS (V_made (s0, ())).snd.fst (V_made (s0, ())).fst (modeC (V_made (s0, ())).snd.snd.fst (V_made (s0, ())).snd.snd.fst.fst)).fst, (loadsS (V_made (s0, ())).snd.fst (V_made (s0, ())).fst (modeC ((V_made (s0, ())).snd.snd.fst.fst, (V_made (s0, ())).snd.snd.fst.snd.fst, (V_made (s0, ())).snd.snd.fst.snd.snd.fst, IntKind.wrap IntKind.i64 ((V_made (s0, ())).snd.snd.fst.snd.snd.snd + bit % (1073741824 : Int))) (V_made (s0, ())).snd.snd.fst.fst)).fst, (loadsS (V_made (s0, ())).snd.fst (V_made (s0, ())).fst (modeC (V_made (s0, ())).snd.snd.fst (1 : Int))).fst, (loadsS (V_made (s0, ())).snd.fst (V_made (s0, ())).fst (modeC ((V_made (s0, ())).snd.snd.fst.fst, minI (22000 : Int) (IntKind.wrap IntKind.i64 ((V_made (s0, ())).snd.snd.fst.snd.fst + mud % (10000 : Int))), (V_made (s0, ())).snd.snd.fst.snd.snd) (1 : Int))).fst, (0 : Int), ())) (Tree.cond ((↑(List.length (loadsS (V_made (s0, ())).snd.fst (V_made (s0, ())).fst (modeC (V_made (s0, ())).snd.snd.fst (V_made (s0, ())).snd.snd.fst.fst)).fst) : Int) == (↑(List.length (loadsS (V_made (s0, ())).snd.fst (V_made (s0, ())).fst (modeC ((V_made (s0, ())).snd.snd.fst.fst, (V_made (s0, ())).snd.snd.fst.snd.fst, (V_made (s0, ())).snd.snd.fst.snd.snd.fst, IntKind.wrap IntKind.i64 ((V_made (s0, ())).snd.snd.fst.snd.snd.snd + bit % (1073741824 : Int))) (V_made (s0, ())).snd.snd.fst.fst)).fst) : Int)) (Tree.leaf (SV.bool true)) (Tree.leaf (SV.bool false))))))))))))))) := by kernel_rfl
def c_PipeMore : PC P := PC.of (α := List Int × Int × Int × Unit) 5 [.val tIs, .val tI, .val tI] (fun x => x) (fun x => x) (fun _ => rfl)
  (fun _ => none)
  (fun x => .bool true) (by kernel_rfl) (by
    rintro ⟨s0, bit, mud, ⟨⟩⟩ hp
    refine fn_of hm (by kernel_rfl) (by kernel_rfl) (T_PipeMore s0 bit mud) ⟨K_PipeMore0, K_PipeMore2, K_PipeMore4, trivial⟩ ?_
    try dsimp only at hp
    try dsimp only
    have hS := S_made (s0, ()) trivial
    generalize V_made (s0, ()) = m at *
    obtain ⟨p, l, c, is⟩ := m
    obtain ⟨h1, h2, h3, h4, h5, h6, h7, h8, h9, h10⟩ := hS
    dsimp only at h1 h2 h3 h4 h5 h6 h7 h8 h9 h10 ⊢
    have hlen : (l.length : Int) < 2 ^ 62 := by omega
    have nn : ∀ z : List Hg, ((z.length : Int) == 0) = false → z ≠ [] := fun z hz e => by rw [e] at hz; exact absurd hz (by decide)
    have hb := Int.emod_nonneg bit (show (1073741824 : Int) ≠ 0 by decide)
    have hb2 := Int.emod_lt_of_pos bit (show (0 : Int) < 1073741824 by decide)
    have hm := Int.emod_nonneg mud (show (10000 : Int) ≠ 0 by decide)
    have hm2 := Int.emod_lt_of_pos mud (show (0 : Int) < 10000 by decide)
    have hR : (0 : Int) < 1073741824 ∧ R64 1073741824 := ⟨by decide, by decide, by decide⟩
    have hR2 : (0 : Int) < 10000 ∧ R64 10000 := ⟨by decide, by decide, by decide⟩
    have hp20 := checkS_len h1
    generalize bit % 1073741824 = x at *
    generalize mud % 10000 = y at *
    rw [W_id (n := c.2.2.2 + x) (by omega) (by omega), W_id (n := c.2.1 + y) (by omega) (by omega)]
    have E0 : modeC c c.1 = c := rfl
    have E1 : modeC (c.1, c.2.1, c.2.2.1, c.2.2.2 + x) c.1 = bitC c (c.2.2.2 + x) := rfl
    have E2 : modeC (c.1, minI 22000 (c.2.1 + y), c.2.2) 1 = mudC c (minI 22000 (c.2.1 + y)) := rfl
    rw [E0, E1, E2]
    refine ⟨trivial, ⟨by decide, by omega, by omega⟩, fun d1 => rfl, fun d1 => ⟨hR, hlen, hlen, fun d2 => rfl, fun d2 => ⟨fun d3 => rfl, fun d3 => ?_⟩⟩⟩
    have d1 : (is && allZ p.2) = true := by simpa using d1
    have hz : ∀ v ∈ p.2, 0 ≤ v.2.2 := by
      intro v hv
      have h := (Bool.and_eq_true _ _ ▸ d1 : is = true ∧ allZ p.2 = true).2
      exact of_decide_eq_true (List.all_eq_true.1 h v hv)
    obtain ⟨⟨e, hM⟩, hL⟩ := bit_ok (l := l) (p := p) (c := c) (f := c.2.2.2 + x) (by omega) (nn _ d2) (nn _ d3)
    have hmin : c.2.1 ≤ minI 22000 (c.2.1 + y) := by unfold minI; split <;> omega
    have hD := mud_ok (l := l) (p := p) hmin hz
    have l1 := loads_few (l := l) (p := p) (c := modeC c 1)
    have l2 := loads_few (l := l) (p := p) (c := mudC c (minI 22000 (c.2.1 + y)))
    refine ⟨⟨by decide, by omega, hL, e, hM⟩, hR2, hlen, hlen, ⟨by decide, by omega, by omega, l1, l2, hD⟩, fun _ => rfl, fun d4 => absurd d4 (by rw [e]; simp)⟩)
end
end Go.MP
