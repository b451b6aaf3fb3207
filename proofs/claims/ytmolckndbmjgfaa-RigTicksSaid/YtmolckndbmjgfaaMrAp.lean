/- The reference's Ticks, Next and Ready. -/
import Derived.Test.YtmolckndbmjgfaaMrAo
namespace Go.MR
open Go Go.Sx Go.Proofs
set_option linter.unusedVariables false
set_option linter.unusedSimpArgs false
noncomputable section
abbrev bV : List Sh := [.val tIs, .val (.sl tBan), .val tIs, .val tIs, .val tIs]
def L_rbesv : Lay := { slots := [(0, .ptr 1 0), (1, .val tIs), (2, .val (.sl tIs)), (3, .val tI), (4, .val tI), (11, .val tI)], boxes := [(1, bV)] }
def L_rbesv_0 : Lay := { slots := [(10, .val tIs)], boxes := [(1, bV)] }
def L_rbesv_1 : Lay := { slots := [], boxes := [(1, bV)] }
def X_rbesv : Exit → St → Option Lay
  | .ret, _ => some L_rbesv_0
  | .exit 0, _ => some L_rbesv_1
  | _, _ => none
abbrev C_rbesv : Code := loopC (bodyOf Try.f91) 0
theorem B_rbesv (s : List Int) (l : List (List Int)) (left n i : Int) (ps : List Int) (bs : List Ban) (t0 t1 t2 : List Int) : loopBodyA (P := P) [c_sureX.gc] (lpOf []) [] 32 (usd noU [1]) (inner C_rbesv) L_rbesv X_rbesv (α := Unit × List Int × List (List Int) × Int × Int × Int × List Int × List Ban × List Int × List Int × List Int × Unit) (fun x => x) (fun x => x) ((), s, l, left, n, i, ps, bs, t0, t1, t2, ()) =
  Tree.cond (decide (i < (↑(List.length l) : Int))) (Tree.need ((0 : Int) ≤ i ∧ i < (↑(List.length l) : Int)) (Tree.need (pre_sure (((ps, bs), t0, t1, t2), s, List.getD l (Int.toNat i) [], s, (0 : Int), left, n, ())) (Tree.cond (sureS ps (t0, t1, t2) s (List.getD l (Int.toNat i) []) n (Int.toNat ((↑(List.length s) : Int) - (0 : Int))) (0 : Int) left s) (Tree.need ((0 : Int) ≤ i ∧ i < (↑(List.length l) : Int)) (Tree.leaf (Sum.inr (Exit.ret, Lay.st L_rbesv_0 (usd noU [(1 : Nat)]) (List.getD l (Int.toNat i) [], ps, bs, t0, t1, t2, PUnit.unit))))) (Tree.leaf (Sum.inl (PUnit.unit, s, l, left, n, IntKind.wrap IntKind.i64 (i + (1 : Int)), ps, bs, t0, t1, t2, PUnit.unit)))))) (Tree.leaf (Sum.inr (Exit.exit (0 : Nat), Lay.st L_rbesv_1 (usd noU [(1 : Nat)]) (ps, bs, t0, t1, t2, PUnit.unit)))) := by kernel_rfl
def inv_rbesv : Unit × List Int × List (List Int) × Int × Int × Int × List Int × List Ban × List Int × List Int × List Int × Unit → Prop := fun (_, s, l, left, n, i, ps, bs, t0, t1, t2, _) => 0 ≤ i ∧ i ≤ l.length ∧ (l.length : Int) ≤ 1000 ∧ PreB ps (t0, t1, t2) s l left
def O_rbesv : Unit × List Int × List (List Int) × Int × Int × Int × List Int × List Ban × List Int × List Int × List Int × Unit → Tree (Exit × St) := fun (_, s, l, left, n, i, ps, bs, t0, t1, t2, _) => .cond ((l.drop i.toNat).any (sure0 ps (t0, t1, t2) s left n)) (.leaf (.ret, L_rbesv_0.st (usd noU [1]) (firstM (sure0 ps (t0, t1, t2) s left n) (l.drop i.toNat), ps, bs, t0, t1, t2, ()))) (.leaf (.exit 0, L_rbesv_1.st (usd noU [1]) (ps, bs, t0, t1, t2, ())))
def R_rbesv : LRun := runOf 32 L_rbesv (fun x => x) (inv_rbesv) (O_rbesv)
theorem K_rbesv : LoopOk P [] 32 none (usd noU [1]) C_rbesv (R_rbesv) := by
  refine loop_of hm (cx := [c_sureX.gc]) [] (xl := X_rbesv) (α := Unit × List Int × List (List Int) × Int × Int × Int × List Int × List Ban × List Int × List Int × List Int × Unit) (fun x => x) (fun (_, s, l, left, n, i, ps, bs, t0, t1, t2, _) => ((l.length : Int) - i).toNat) (fun _ => rfl) (by kernel_rfl) (by kernel_rfl) ?_ (by kernel_rfl) trivial ?_
  · intro e S L' h
    unfold X_rbesv at h
    split at h <;> first | (cases h; done) | (cases h; kernel_rfl) | (rcases bif_some h with h | h <;> cases h <;> kernel_rfl)
  · rintro ⟨⟨⟩, s, l, left, n, i, ps, bs, t0, t1, t2, ⟨⟩⟩ hinv Q hQ
    refine hold_of_eq (B_rbesv s l left n i ps bs t0 t1 t2) ?_
    obtain ⟨h0, h1, h2, h3⟩ := hinv
    rw [W_id (n := i + 1) (by omega) (by omega)]
    unfold O_rbesv at hQ
    dsimp only at hQ
    refine ⟨fun c1 => ?_, fun c1 => ?_⟩
    · have d1 := of_decide_eq_true c1
      have hm : ((l.length : Int) - (i + 1)).toNat < ((l.length : Int) - i).toNat := by omega
      have hk := h3.ok _ (getD_mem (d := ([] : List Int)) (show i.toNat < l.length by omega))
      have hsl := hk.sl
      have e0 : ((s.length : Int) - 0).toNat = s.length := by omega
      rw [drop_step ([] : List Int) h0 d1] at hQ
      have es : ∀ m, sureS ps (t0, t1, t2) s m n ((s.length : Int) - 0).toNat 0 left s = sure0 ps (t0, t1, t2) s left n m := fun m => by rw [e0]; rfl
      rw [es]
      refine ⟨⟨h0, by omega⟩, ⟨⟨by decide, by omega⟩, hk, ⟨hsl, hk.si⟩, ⟨h3.l0, h3.l2⟩, h3.rows⟩, ⟨fun c2 => ⟨⟨h0, by omega⟩, ?_⟩, fun c2 => ?_⟩⟩
      · obtain ⟨f1, f2⟩ := firstM_yes' (l := l.drop (i + 1).toNat) (show sure0 ps (t0, t1, t2) s left n (l.getD i.toNat []) = true from c2)
        rw [f2] at hQ
        exact hQ.1 f1
      · have c2' : sure0 ps (t0, t1, t2) s left n (l.getD i.toNat []) = false := c2
        rw [List.any_cons, c2', Bool.false_or, firstM_no c2'] at hQ
        exact ⟨⟨⟨by omega, by omega, h2, h3⟩, hm⟩, hQ⟩
    · have d1 := of_decide_eq_false c1
      rw [drop_end d1] at hQ
      exact hQ.2 rfl
def L_rbsv : Lay := { slots := [(0, .ptr 1 0), (1, .val tIs), (2, .val (.sl tIs)), (3, .val tI), (4, .val tI)], boxes := [(1, bV)] }
theorem T_rbsv (s : List Int) (l : List (List Int)) (left n : Int) (ps : List Int) (bs : List Ban) (t0 t1 t2 : List Int) : mTree (P := P) [] (lpOf [(0, R_rbesv)]) Try.f91 L_rbsv true ((), s, l, left, n, ps, bs, t0, t1, t2, ()) =
  Tree.need (inv_rbesv ((), s, l, left, n, (0 : Int), ps, bs, t0, t1, t2, ())) (Tree.cond (List.any (List.drop (Int.toNat (0 : Int)) l) (sure0 ps (t0, t1, t2) s left n)) (Tree.leaf { res := SV.sl tI (firstM (sure0 ps (t0, t1, t2) s left n) (List.drop (Int.toNat (0 : Int)) l)), boxes := [[SV.sl tI ps, SV.sl tBan bs, SV.sl tI t0, SV.sl tI t1, SV.sl tI t2]] }) (Tree.leaf { res := SV.nils, boxes := [[SV.sl tI ps, SV.sl tBan bs, SV.sl tI t0, SV.sl tI t1, SV.sl tI t2]] })) := by kernel_rfl
def c_rbsv : MC P := MC.of (α := Unit × List Int × List (List Int) × Int × Int × List Int × List Ban × List Int × List Int × List Int × Unit) 91 L_rbsv (fun x => x) (fun x => x) (fun _ => rfl)
  (fun (_, s, l, left, n, ps, bs, t0, t1, t2, _) => some (PreB ps (t0, t1, t2) s l left ∧ (l.length : Int) ≤ 1000 ∧ ∀ m ∈ l, m ≠ []))
  (fun (_, s, l, left, n, ps, bs, t0, t1, t2, _) => ⟨.osl tI (bestT ps (t0, t1, t2) s l left n), [[.sl tI ps, .sl tBan bs, .sl tI t0, .sl tI t1, .sl tI t2]], []⟩) (by kernel_rfl) (by kernel_rfl) (by kernel_rfl) (by
    rintro ⟨⟨⟩, s, l, left, n, ps, bs, t0, t1, t2, ⟨⟩⟩ hp
    refine m_le hm (own := true) (by kernel_rfl) (by kernel_rfl) (by kernel_rfl) (T_rbsv s l left n ps bs t0 t1 t2) ⟨K_rbesv, trivial⟩ ?_
    obtain ⟨p1, p2, p3⟩ : PreB ps (t0, t1, t2) s l left ∧ (l.length : Int) ≤ 1000 ∧ ∀ m ∈ l, m ≠ [] := hp
    refine ⟨⟨by decide, by omega, p2, p1⟩, fun c1 => ?_, fun c1 => ?_⟩
    · exact ⟨leS_osl (p3 _ (firstM_mem c1).1), rfl, rfl⟩
    · have e : bestT ps (t0, t1, t2) s l left n = [] := firstM_nil c1
      dsimp only
      rw [e]
      exact ⟨leS_nosl, rfl, rfl⟩)
theorem madT_rows {ps : List Int} {g : List (Int × Int)} {mv : List (List (List Int))} {N losses : Int} (hlo : losses ≤ 2) (hN : 0 ≤ N) : ∀ (j : Nat) (k most : Int) (T : Rows3), 0 ≤ k → k + j = losses + 1 → RowsK T (k - 1) N → RowsK (madT ps g mv N j k most T) losses N
  | 0, k, most, T, _, h1, h2 => by
    rw [show k - 1 = losses by omega] at h2
    exact h2
  | j + 1, k, most, T, h0, h1, h2 => by
    rw [madT]
    have hrows : RowsK (row0 ps g mv N k T) k N := rows_set ⟨h0, by omega⟩ h2 (by rw [fillT_len, List.length_replicate]; omega)
    have := layT_rows (ps := ps) (mv := mv) ⟨h0, by omega⟩ 64 1 most _ hrows
    exact madT_rows hlo hN j (k + 1) _ _ (by omega) (by omega) (by rw [show k + 1 - 1 = k by omega]; exact this)
theorem madeT_rows {ps : List Int} {bs : List Ban} {g : List (Int × Int)} {losses : Int} (h : RgOk ps bs) (h0 : 0 ≤ losses) (h1 : losses ≤ 2) : RowsK (madeT ps bs g losses) losses (prodL ps) := by
  have hp := h.pr
  unfold madeT
  rw [h.many]
  exact madT_rows h1 (by omega) _ 0 _ _ (by omega) (by omega) (fun l q0 q1 => by omega)
theorem rtick_eq {r : Rig} {s : List Int} {g : List (Int × Int)} {losses : Int} (h : askedS r s g losses = 0) : (getT (madeT r.1 r.2 g losses) losses).getD (numW r.1 s 0).toNat 0 = tickN r s g losses := by
  obtain ⟨a1, a2, a3, a4, a5⟩ := askedS_ok h
  rw [tickN_eq h]
  have := madeT_ok (ps := r.1) (bs := r.2) (g := g) (losses := losses.toNat) (by omega) a1 (Nat.le_refl _) ⟨a2.sl, a2.si⟩
  rw [Int.toNat_of_nonneg a4] at this
  exact this
theorem tickN_rng {r : Rig} {s : List Int} {g : List (Int × Int)} {losses : Int} (h : askedS r s g losses = 0) : -1 ≤ tickN r s g losses ∧ tickN r s g losses < 65 := by
  rw [tickN_eq h]; exact tickD_rng _ _ _ _ _
theorem firstM_filter {p q u : List Int → Bool} : ∀ {l : List (List Int)}, (∀ m ∈ l, (p m && q m) = u m) → firstM q (l.filter p) = firstM u l
  | [], _ => rfl
  | m :: l, h => by
    have hm := h m (by simp)
    have ih := firstM_filter (p := p) (q := q) (u := u) (l := l) fun x hx => h x (List.mem_cons_of_mem _ hx)
    rw [List.filter_cons]
    cases hp : p m with
    | false =>
      rw [hp, Bool.false_and] at hm
      rw [if_neg (by decide), firstM_no hm.symm]
      exact ih
    | true =>
      rw [hp, Bool.true_and] at hm
      rw [if_pos rfl]
      cases hq : q m with
      | true => rw [firstM_yes hq, firstM_yes (hm ▸ hq)]
      | false => rw [firstM_no hq, firstM_no (hm ▸ hq)]; exact ih
theorem next_eq {r : Rig} {s : List Int} {g : List (Int × Int)} {losses : Int} (h : askedS r s g losses = 0) (hs : stateS r s = 0) (hn : 0 < tickN r s g losses) :
    bestT r.1 (madeT r.1 r.2 g losses) s (movesS r s) losses (tickN r s g losses) = bestS r.1 r.2 (cntTk r.1 r.2 g losses) s losses (IntKind.wrap IntKind.i8 (tickN r s g losses - 1)) := by
  obtain ⟨a1, a2, a3, a4, a5⟩ := askedS_ok h
  have hr : RgOk r.1 r.2 := ⟨a2.l2, a2.l4, a2.pb⟩
  have ht := tickN_rng h
  rw [B_id (by omega) (by omega)]
  obtain ⟨d, hd⟩ : ∃ d : Nat, tickN r s g losses = ((d + 1 : Nat) : Int) := ⟨(tickN r s g losses - 1).toNat, by omega⟩
  obtain ⟨l, rfl⟩ : ∃ l : Nat, losses = (l : Int) := ⟨losses.toNat, by omega⟩
  rw [hd, show ((d + 1 : Nat) : Int) - 1 = (d : Int) by omega]
  have hvs : VS r.1 s := ⟨a2.sl, a2.si⟩
  have sl := a2.sl
  unfold bestT bestS movesS
  rw [if_neg (by rw [hs]; simp)]
  refine firstM_filter fun m hm => ?_
  rw [take_full hr (by omega) hvs hm (by omega)]
  cases ho : okM r.1 r.2 s m with
  | false => rfl
  | true =>
    have hml := allM_len hm
    have hmi := allM_is hm
    rw [Bool.true_and, Bool.true_and, sure0_all hml.symm (small_of hr.pb a2.sl a2.si hmi)]
    unfold okM at ho
    rw [Bool.and_eq_true] at ho
    refine all_congr fun y hy => ?_
    obtain ⟨v1, v2⟩ := nexts_vs hr.pb a2.sl (by omega) a2.si hmi (waysS_ok ho.1) hy
    unfold okQ
    rw [madeT_ok (by omega) a1 v2 v1, Bool.eq_iff_iff, Bool.and_eq_true, decide_eq_true_eq, decide_eq_true_eq, ← tick_le (show d < 65 by omega)]
    omega
theorem nextS_len (r : Rig) (s : List Int) (g : List (Int × Int)) (losses : Int) : (nextS r s g losses).1.length ≤ s.length := by
  unfold nextS
  split
  · exact Nat.zero_le _
  · split
    · exact Nat.zero_le _
    · split
      · rw [List.length_replicate]; exact Nat.le_refl _
      · show (bestS _ _ _ _ _ _).length ≤ _
        unfold bestS
        by_cases c : (allM s.length).any (takeM r.1 r.2 (cntTk r.1 r.2 g losses) s losses (IntKind.wrap IntKind.i8 (tickN r s g losses - 1))) = true
        · rw [allM_len (firstM_mem c).1]; exact Nat.le_refl _
        · rw [firstM_nil (by simpa using c)]; exact Nat.zero_le _
theorem T_rTicks (s0_0 : List Int) (s0_1 : List (Int × (Int × (Int × V)))) (s1 : List Int) (s2 : List (Int × Int)) (s3 : Int) : fnTree (P := P) [c_rasks.gc, c_made.gc, c_rnumber.gc, c_flagL] (lpOf []) Try.f43 (encL 0 [.agg (.pair tIs (.sl (.pair tI (.pair tI (.pair tI tV))))), .val tIs, .val (.sl tPart), .val tI] ((s0_0, s0_1), s1, s2, s3, ())) =
  Tree.need ((↑(List.length s1) : Int) < (2 : Int) ^ (62 : Nat)) (Tree.cond (askedS (s0_0, s0_1) s1 s2 s3 != (0 : Int)) (Tree.leaf (SV.tup [SV.int IntKind.i64 (0 : Int), SV.int IntKind.i64 (askedS (s0_0, s0_1) s1 s2 s3)])) (Tree.need (checkS (s0_0, s0_1) = (0 : Int) ∧ List.length s2 = List.length s0_0 ∧ (0 : Int) ≤ s3 ∧ s3 ≤ (2 : Int)) (Tree.cond (decide (s3 = (↑(nat_lit 2) : Int))) (Tree.need ((0 : Int) ≤ (↑(nat_lit 2) : Int) ∧ (↑(nat_lit 2) : Int) < (↑(3 : Nat) : Int)) (Tree.need (List.length s1 ≤ (1000 : Nat) ∧ List.length s1 ≤ List.length s0_0) (Tree.need ((0 : Int) ≤ numW s0_0 s1 (0 : Int) ∧ numW s0_0 s1 (0 : Int) < (↑(List.length (madeT s0_0 s0_1 s2 s3).snd.snd) : Int)) (Tree.cond (decide (List.getD (madeT s0_0 s0_1 s2 s3).snd.snd (Int.toNat (numW s0_0 s1 (0 : Int))) (0 : Int) < (0 : Int))) (Tree.leaf (SV.tup [SV.int IntKind.i64 (0 : Int), SV.int IntKind.i64 (13 : Int)])) (Tree.leaf (SV.tup [SV.int IntKind.i64 (List.getD (madeT s0_0 s0_1 s2 s3).snd.snd (Int.toNat (numW s0_0 s1 (0 : Int))) (0 : Int)), SV.int IntKind.i64 (0 : Int)])))))) (Tree.cond (decide (s3 = (↑(nat_lit 1) : Int))) (Tree.need ((0 : Int) ≤ (↑(nat_lit 1) : Int) ∧ (↑(nat_lit 1) : Int) < (↑(3 : Nat) : Int)) (Tree.need (List.length s1 ≤ (1000 : Nat) ∧ List.length s1 ≤ List.length s0_0) (Tree.need ((0 : Int) ≤ numW s0_0 s1 (0 : Int) ∧ numW s0_0 s1 (0 : Int) < (↑(List.length (madeT s0_0 s0_1 s2 s3).snd.fst) : Int)) (Tree.cond (decide (List.getD (madeT s0_0 s0_1 s2 s3).snd.fst (Int.toNat (numW s0_0 s1 (0 : Int))) (0 : Int) < (0 : Int))) (Tree.leaf (SV.tup [SV.int IntKind.i64 (0 : Int), SV.int IntKind.i64 (13 : Int)])) (Tree.leaf (SV.tup [SV.int IntKind.i64 (List.getD (madeT s0_0 s0_1 s2 s3).snd.fst (Int.toNat (numW s0_0 s1 (0 : Int))) (0 : Int)), SV.int IntKind.i64 (0 : Int)])))))) (Tree.cond (decide (s3 = (↑(nat_lit 0) : Int))) (Tree.need ((0 : Int) ≤ (↑(nat_lit 0) : Int) ∧ (↑(nat_lit 0) : Int) < (↑(3 : Nat) : Int)) (Tree.need (List.length s1 ≤ (1000 : Nat) ∧ List.length s1 ≤ List.length s0_0) (Tree.need ((0 : Int) ≤ numW s0_0 s1 (0 : Int) ∧ numW s0_0 s1 (0 : Int) < (↑(List.length (madeT s0_0 s0_1 s2 s3).fst) : Int)) (Tree.cond (decide (List.getD (madeT s0_0 s0_1 s2 s3).fst (Int.toNat (numW s0_0 s1 (0 : Int))) (0 : Int) < (0 : Int))) (Tree.leaf (SV.tup [SV.int IntKind.i64 (0 : Int), SV.int IntKind.i64 (13 : Int)])) (Tree.leaf (SV.tup [SV.int IntKind.i64 (List.getD (madeT s0_0 s0_1 s2 s3).fst (Int.toNat (numW s0_0 s1 (0 : Int))) (0 : Int)), SV.int IntKind.i64 (0 : Int)])))))) (Tree.fail (31 : Nat))))))) := by kernel_rfl
def c_rTicks : PC P := PC.of (α := (List Int × List (Int × (Int × (Int × V)))) × List Int × List (Int × Int) × Int × Unit) 43 [.agg (.pair tIs (.sl (.pair tI (.pair tI (.pair tI tV))))), .val tIs, .val (.sl tPart), .val tI] (fun x => x) (fun x => x) (fun _ => rfl)
  (fun x => some ((x.2.1.length : Int) < 2 ^ 62))
  (fun x => .tup [.int .i64 (ticksS x.1 x.2.1 x.2.2.1 x.2.2.2.1).1, .int .i64 (ticksS x.1 x.2.1 x.2.2.1 x.2.2.2.1).2]) (by kernel_rfl) (by
    rintro ⟨⟨s0_0, s0_1⟩, s1, s2, s3, ⟨⟩⟩ hp
    refine fn_of hm (by kernel_rfl) (by kernel_rfl) (T_rTicks s0_0 s0_1 s1 s2 s3) trivial ?_
    try dsimp only at hp
    try dsimp only
    have fin : ∀ k : Int × Int, ticksS (s0_0, s0_1) s1 s2 s3 = k → SV.tup [.int .i64 k.1, .int .i64 k.2] = SV.tup [.int .i64 (ticksS (s0_0, s0_1) s1 s2 s3).1, .int .i64 (ticksS (s0_0, s0_1) s1 s2 s3).2] := fun k h => by rw [h]
    have hp' : (s1.length : Int) < 2 ^ 62 := hp
    refine ⟨hp', fun c1 => ?_, fun c1 => ?_⟩
    · have d1 : askedS (s0_0, s0_1) s1 s2 s3 ≠ 0 := by simpa using c1
      exact fin (0, askedS (s0_0, s0_1) s1 s2 s3) (by unfold ticksS; rw [if_pos d1])
    have d1 : askedS (s0_0, s0_1) s1 s2 s3 = 0 := by simpa using c1
    obtain ⟨a1, a2, a3, a4, a5⟩ := askedS_ok d1
    have sl := a2.sl
    have l4 := a2.l4
    dsimp only at sl l4
    have hrows := madeT_rows (g := s2) (RgOk.mk a2.l2 a2.l4 a2.pb : RgOk s0_0 s0_1) a4 a5
    obtain ⟨n1, n2, n3⟩ := num_rng a2.pb a2.l4 a2.sl a2.si
    dsimp only at n1 n2 n3
    have hx := rtick_eq d1
    have ht := tickN_rng d1
    dsimp only at hx ht
    refine ⟨⟨a1, a3, a4, a5⟩, fun c2 => ?_, fun c2 => ⟨fun c4 => ?_, fun c4 => ⟨fun c6 => ?_, fun c6 => ?_⟩⟩⟩
    · have d2 : s3 = 2 := of_decide_eq_true c2
      subst d2
      have hlen' : (((madeT s0_0 s0_1 s2 2).2.2.length : Nat) : Int) = prodL s0_0 := hrows 2 (by decide) (by decide)
      have hx' : ((madeT s0_0 s0_1 s2 2).2.2).getD (numW s0_0 s1 0).toNat 0 = tickN (s0_0, s0_1) s1 s2 2 := hx
      rw [hx']
      exact ⟨⟨by decide, by decide⟩, ⟨by omega, by omega⟩, ⟨n1, by omega⟩, fun c => fin (0, 13) (by unfold ticksS; rw [if_neg (by rw [d1]; simp), if_pos (of_decide_eq_true c)]), fun c => fin (tickN (s0_0, s0_1) s1 s2 2, 0) (by unfold ticksS; rw [if_neg (by rw [d1]; simp), if_neg (of_decide_eq_false c), W_id (by omega) (by omega)])⟩
    · have d2 : s3 = 1 := of_decide_eq_true c4
      subst d2
      have hlen' : (((madeT s0_0 s0_1 s2 1).2.1.length : Nat) : Int) = prodL s0_0 := hrows 1 (by decide) (by decide)
      have hx' : ((madeT s0_0 s0_1 s2 1).2.1).getD (numW s0_0 s1 0).toNat 0 = tickN (s0_0, s0_1) s1 s2 1 := hx
      rw [hx']
      exact ⟨⟨by decide, by decide⟩, ⟨by omega, by omega⟩, ⟨n1, by omega⟩, fun c => fin (0, 13) (by unfold ticksS; rw [if_neg (by rw [d1]; simp), if_pos (of_decide_eq_true c)]), fun c => fin (tickN (s0_0, s0_1) s1 s2 1, 0) (by unfold ticksS; rw [if_neg (by rw [d1]; simp), if_neg (of_decide_eq_false c), W_id (by omega) (by omega)])⟩
    · have d2 : s3 = 0 := of_decide_eq_true c6
      subst d2
      have hlen' : (((madeT s0_0 s0_1 s2 0).1.length : Nat) : Int) = prodL s0_0 := hrows 0 (by decide) (by decide)
      have hx' : ((madeT s0_0 s0_1 s2 0).1).getD (numW s0_0 s1 0).toNat 0 = tickN (s0_0, s0_1) s1 s2 0 := hx
      rw [hx']
      exact ⟨⟨by decide, by decide⟩, ⟨by omega, by omega⟩, ⟨n1, by omega⟩, fun c => fin (0, 13) (by unfold ticksS; rw [if_neg (by rw [d1]; simp), if_pos (of_decide_eq_true c)]), fun c => fin (tickN (s0_0, s0_1) s1 s2 0, 0) (by unfold ticksS; rw [if_neg (by rw [d1]; simp), if_neg (of_decide_eq_false c), W_id (by omega) (by omega)])⟩
    · exfalso
      have e2 : ¬ s3 = 2 := of_decide_eq_false c2
      have e4 : ¬ s3 = 1 := of_decide_eq_false c4
      have e6 : ¬ s3 = 0 := of_decide_eq_false c6
      omega)
theorem T_rNext (s0_0 : List Int) (s0_1 : List (Int × (Int × (Int × V)))) (s1 : List Int) (s2 : List (Int × Int)) (s3 : Int) : fnTree (P := P) [c_rasks.gc, c_made.gc, c_rnumber.gc, c_rbsv.gc, c_rMoves.gc, c_flagL] (lpOf []) Try.f45 (encL 0 [.agg (.pair tIs (.sl (.pair tI (.pair tI (.pair tI tV))))), .val tIs, .val (.sl tPart), .val tI] ((s0_0, s0_1), s1, s2, s3, ())) =
  Tree.need ((↑(List.length s1) : Int) < (2 : Int) ^ (62 : Nat)) (Tree.cond (askedS (s0_0, s0_1) s1 s2 s3 != (0 : Int)) (Tree.leaf (SV.tup [SV.nils, SV.int IntKind.i64 (askedS (s0_0, s0_1) s1 s2 s3)])) (Tree.need (checkS (s0_0, s0_1) = (0 : Int) ∧ List.length s2 = List.length s0_0 ∧ (0 : Int) ≤ s3 ∧ s3 ≤ (2 : Int)) (Tree.cond (decide (s3 = (↑(nat_lit 2) : Int))) (Tree.need ((0 : Int) ≤ (↑(nat_lit 2) : Int) ∧ (↑(nat_lit 2) : Int) < (↑(3 : Nat) : Int)) (Tree.need (List.length s1 ≤ (1000 : Nat) ∧ List.length s1 ≤ List.length s0_0) (Tree.need ((0 : Int) ≤ numW s0_0 s1 (0 : Int) ∧ numW s0_0 s1 (0 : Int) < (↑(List.length (madeT s0_0 s0_1 s2 s3).snd.snd) : Int)) (Tree.cond (decide (List.getD (madeT s0_0 s0_1 s2 s3).snd.snd (Int.toNat (numW s0_0 s1 (0 : Int))) (0 : Int) < (0 : Int))) (Tree.leaf (SV.tup [SV.nils, SV.int IntKind.i64 (13 : Int)])) (Tree.cond (List.getD (madeT s0_0 s0_1 s2 s3).snd.snd (Int.toNat (numW s0_0 s1 (0 : Int))) (0 : Int) == (0 : Int)) (Tree.need ((0 : Int) ≤ (↑(List.length s1) : Int) ∧ (↑(List.length s1) : Int) = (↑(List.length s1) : Int) ∧ (↑(List.length s1) : Int) ≤ (70368744177664 : Int) ∧ (↑(8 : Nat) : Int) * (↑(List.length s1) : Int) ≤ (140737488355328 : Int)) (Tree.leaf (SV.tup [SV.sl (Ty.int IntKind.i64) (List.replicate (Int.toNat (↑(List.length s1) : Int)) (0 : Int)), SV.int IntKind.i64 (0 : Int)]))) (Tree.need ((↑(List.length s1) : Int) < (2 : Int) ^ (62 : Nat)) (Tree.need (PreB s0_0 (madeT s0_0 s0_1 s2 s3) s1 (movesS (s0_0, s0_1) s1) s3 ∧ (↑(List.length (movesS (s0_0, s0_1) s1)) : Int) ≤ (1000 : Int) ∧ ∀ (m : List Int), m ∈ movesS (s0_0, s0_1) s1 → m ≠ []) (Tree.leaf (SV.tup [SV.osl (Ty.int IntKind.i64) (bestT s0_0 (madeT s0_0 s0_1 s2 s3) s1 (movesS (s0_0, s0_1) s1) s3 (List.getD (madeT s0_0 s0_1 s2 s3).snd.snd (Int.toNat (numW s0_0 s1 (0 : Int))) (0 : Int))), SV.int IntKind.i64 (0 : Int)]))))))))) (Tree.cond (decide (s3 = (↑(nat_lit 1) : Int))) (Tree.need ((0 : Int) ≤ (↑(nat_lit 1) : Int) ∧ (↑(nat_lit 1) : Int) < (↑(3 : Nat) : Int)) (Tree.need (List.length s1 ≤ (1000 : Nat) ∧ List.length s1 ≤ List.length s0_0) (Tree.need ((0 : Int) ≤ numW s0_0 s1 (0 : Int) ∧ numW s0_0 s1 (0 : Int) < (↑(List.length (madeT s0_0 s0_1 s2 s3).snd.fst) : Int)) (Tree.cond (decide (List.getD (madeT s0_0 s0_1 s2 s3).snd.fst (Int.toNat (numW s0_0 s1 (0 : Int))) (0 : Int) < (0 : Int))) (Tree.leaf (SV.tup [SV.nils, SV.int IntKind.i64 (13 : Int)])) (Tree.cond (List.getD (madeT s0_0 s0_1 s2 s3).snd.fst (Int.toNat (numW s0_0 s1 (0 : Int))) (0 : Int) == (0 : Int)) (Tree.need ((0 : Int) ≤ (↑(List.length s1) : Int) ∧ (↑(List.length s1) : Int) = (↑(List.length s1) : Int) ∧ (↑(List.length s1) : Int) ≤ (70368744177664 : Int) ∧ (↑(8 : Nat) : Int) * (↑(List.length s1) : Int) ≤ (140737488355328 : Int)) (Tree.leaf (SV.tup [SV.sl (Ty.int IntKind.i64) (List.replicate (Int.toNat (↑(List.length s1) : Int)) (0 : Int)), SV.int IntKind.i64 (0 : Int)]))) (Tree.need ((↑(List.length s1) : Int) < (2 : Int) ^ (62 : Nat)) (Tree.need (PreB s0_0 (madeT s0_0 s0_1 s2 s3) s1 (movesS (s0_0, s0_1) s1) s3 ∧ (↑(List.length (movesS (s0_0, s0_1) s1)) : Int) ≤ (1000 : Int) ∧ ∀ (m : List Int), m ∈ movesS (s0_0, s0_1) s1 → m ≠ []) (Tree.leaf (SV.tup [SV.osl (Ty.int IntKind.i64) (bestT s0_0 (madeT s0_0 s0_1 s2 s3) s1 (movesS (s0_0, s0_1) s1) s3 (List.getD (madeT s0_0 s0_1 s2 s3).snd.fst (Int.toNat (numW s0_0 s1 (0 : Int))) (0 : Int))), SV.int IntKind.i64 (0 : Int)]))))))))) (Tree.cond (decide (s3 = (↑(nat_lit 0) : Int))) (Tree.need ((0 : Int) ≤ (↑(nat_lit 0) : Int) ∧ (↑(nat_lit 0) : Int) < (↑(3 : Nat) : Int)) (Tree.need (List.length s1 ≤ (1000 : Nat) ∧ List.length s1 ≤ List.length s0_0) (Tree.need ((0 : Int) ≤ numW s0_0 s1 (0 : Int) ∧ numW s0_0 s1 (0 : Int) < (↑(List.length (madeT s0_0 s0_1 s2 s3).fst) : Int)) (Tree.cond (decide (List.getD (madeT s0_0 s0_1 s2 s3).fst (Int.toNat (numW s0_0 s1 (0 : Int))) (0 : Int) < (0 : Int))) (Tree.leaf (SV.tup [SV.nils, SV.int IntKind.i64 (13 : Int)])) (Tree.cond (List.getD (madeT s0_0 s0_1 s2 s3).fst (Int.toNat (numW s0_0 s1 (0 : Int))) (0 : Int) == (0 : Int)) (Tree.need ((0 : Int) ≤ (↑(List.length s1) : Int) ∧ (↑(List.length s1) : Int) = (↑(List.length s1) : Int) ∧ (↑(List.length s1) : Int) ≤ (70368744177664 : Int) ∧ (↑(8 : Nat) : Int) * (↑(List.length s1) : Int) ≤ (140737488355328 : Int)) (Tree.leaf (SV.tup [SV.sl (Ty.int IntKind.i64) (List.replicate (Int.toNat (↑(List.length s1) : Int)) (0 : Int)), SV.int IntKind.i64 (0 : Int)]))) (Tree.need ((↑(List.length s1) : Int) < (2 : Int) ^ (62 : Nat)) (Tree.need (PreB s0_0 (madeT s0_0 s0_1 s2 s3) s1 (movesS (s0_0, s0_1) s1) s3 ∧ (↑(List.length (movesS (s0_0, s0_1) s1)) : Int) ≤ (1000 : Int) ∧ ∀ (m : List Int), m ∈ movesS (s0_0, s0_1) s1 → m ≠ []) (Tree.leaf (SV.tup [SV.osl (Ty.int IntKind.i64) (bestT s0_0 (madeT s0_0 s0_1 s2 s3) s1 (movesS (s0_0, s0_1) s1) s3 (List.getD (madeT s0_0 s0_1 s2 s3).fst (Int.toNat (numW s0_0 s1 (0 : Int))) (0 : Int))), SV.int IntKind.i64 (0 : Int)]))))))))) (Tree.fail (31 : Nat))))))) := by kernel_rfl
def c_rNext : PC P := PC.of (α := (List Int × List (Int × (Int × (Int × V)))) × List Int × List (Int × Int) × Int × Unit) 45 [.agg (.pair tIs (.sl (.pair tI (.pair tI (.pair tI tV))))), .val tIs, .val (.sl tPart), .val tI] (fun x => x) (fun x => x) (fun _ => rfl)
  (fun x => some ((x.2.1.length : Int) < 2 ^ 62))
  (fun x => .tup [.sl tI (nextS x.1 x.2.1 x.2.2.1 x.2.2.2.1).1, .int .i64 (nextS x.1 x.2.1 x.2.2.1 x.2.2.2.1).2]) (by kernel_rfl) (by
    rintro ⟨⟨s0_0, s0_1⟩, s1, s2, s3, ⟨⟩⟩ hp
    refine fn_le hm (by kernel_rfl) (by kernel_rfl) (T_rNext s0_0 s0_1 s1 s2 s3) trivial (by kernel_rfl) ?_
    try dsimp only at hp
    try dsimp only
    have hp' : (s1.length : Int) < 2 ^ 62 := hp
    refine ⟨hp', fun c1 => ?_, fun c1 => ?_⟩
    · have d1 : askedS (s0_0, s0_1) s1 s2 s3 ≠ 0 := by simpa using c1
      rw [show nextS (s0_0, s0_1) s1 s2 s3 = ([], askedS (s0_0, s0_1) s1 s2 s3) by unfold nextS; rw [if_pos d1]]
      exact leS_n2 _
    have d1 : askedS (s0_0, s0_1) s1 s2 s3 = 0 := by simpa using c1
    have finN : nextS (s0_0, s0_1) s1 s2 s3 = ([], 13) → LeS (.tup [.nils, .int .i64 13]) (.tup [.sl tI (nextS (s0_0, s0_1) s1 s2 s3).1, .int .i64 (nextS (s0_0, s0_1) s1 s2 s3).2]) := fun h => by rw [h]; exact leS_n2 13
    have hss : stateS (s0_0, s0_1) s1 = 0 := by
      by_cases q : stateS (s0_0, s0_1) s1 = 0
      · exact q
      · unfold askedS at d1
        rw [if_pos q] at d1
        exact d1
    obtain ⟨a1, a2, a3, a4, a5⟩ := askedS_ok d1
    have sl := a2.sl
    have l4 := a2.l4
    dsimp only at sl l4
    have hrows := madeT_rows (g := s2) (RgOk.mk a2.l2 a2.l4 a2.pb : RgOk s0_0 s0_1) a4 a5
    obtain ⟨n1, n2, n3⟩ := num_rng a2.pb a2.l4 a2.sl a2.si
    dsimp only at n1 n2 n3
    have hx := rtick_eq d1
    have ht := tickN_rng d1
    dsimp only at hx ht
    refine ⟨⟨a1, a3, a4, a5⟩, fun c2 => ?_, fun c2 => ⟨fun c4 => ?_, fun c4 => ⟨fun c6 => ?_, fun c6 => ?_⟩⟩⟩
    · have d2 : s3 = 2 := of_decide_eq_true c2
      subst d2
      have hlen' : (((madeT s0_0 s0_1 s2 2).2.2.length : Nat) : Int) = prodL s0_0 := hrows 2 (by decide) (by decide)
      have hx' : ((madeT s0_0 s0_1 s2 2).2.2).getD (numW s0_0 s1 0).toNat 0 = tickN (s0_0, s0_1) s1 s2 2 := hx
      rw [hx']
      refine ⟨⟨by decide, by decide⟩, ⟨by omega, by omega⟩, ⟨n1, by omega⟩, fun c => ?_, fun c => ⟨fun c' => ⟨⟨by omega, rfl, by omega, by omega⟩, ?_⟩, fun c' => ⟨hp', ⟨⟨fun m hm => (movesS_pre a1 hm).1, a4, a5, hrows⟩, movesS_few a1, fun m hm => (movesS_pre a1 hm).2⟩, ?_⟩⟩⟩
      · exact finN (by unfold nextS; rw [if_neg (by rw [d1]; simp), if_pos (of_decide_eq_true c)])
      · have c'' : tickN (s0_0, s0_1) s1 s2 2 = 0 := by simpa using c'
        rw [show nextS (s0_0, s0_1) s1 s2 2 = (List.replicate s1.length 0, 0) by unfold nextS; rw [if_neg (by rw [d1]; simp), if_neg (of_decide_eq_false c), if_pos c''], Int.toNat_natCast]
        exact leS_t2 _ 0
      · have c'' : ¬ tickN (s0_0, s0_1) s1 s2 2 = 0 := by simpa using c'
        have c3 := of_decide_eq_false c
        have hn := next_eq d1 hss (by omega)
        dsimp only at hn
        rw [show nextS (s0_0, s0_1) s1 s2 2 = (bestT s0_0 (madeT s0_0 s0_1 s2 2) s1 (movesS (s0_0, s0_1) s1) 2 (tickN (s0_0, s0_1) s1 s2 2), 0) by unfold nextS; rw [if_neg (by rw [d1]; simp), if_neg c3, if_neg c'']; dsimp only; rw [hn]]
        exact leS_o2 _ 0
    · have d2 : s3 = 1 := of_decide_eq_true c4
      subst d2
      have hlen' : (((madeT s0_0 s0_1 s2 1).2.1.length : Nat) : Int) = prodL s0_0 := hrows 1 (by decide) (by decide)
      have hx' : ((madeT s0_0 s0_1 s2 1).2.1).getD (numW s0_0 s1 0).toNat 0 = tickN (s0_0, s0_1) s1 s2 1 := hx
      rw [hx']
      refine ⟨⟨by decide, by decide⟩, ⟨by omega, by omega⟩, ⟨n1, by omega⟩, fun c => ?_, fun c => ⟨fun c' => ⟨⟨by omega, rfl, by omega, by omega⟩, ?_⟩, fun c' => ⟨hp', ⟨⟨fun m hm => (movesS_pre a1 hm).1, a4, a5, hrows⟩, movesS_few a1, fun m hm => (movesS_pre a1 hm).2⟩, ?_⟩⟩⟩
      · exact finN (by unfold nextS; rw [if_neg (by rw [d1]; simp), if_pos (of_decide_eq_true c)])
      · have c'' : tickN (s0_0, s0_1) s1 s2 1 = 0 := by simpa using c'
        rw [show nextS (s0_0, s0_1) s1 s2 1 = (List.replicate s1.length 0, 0) by unfold nextS; rw [if_neg (by rw [d1]; simp), if_neg (of_decide_eq_false c), if_pos c''], Int.toNat_natCast]
        exact leS_t2 _ 0
      · have c'' : ¬ tickN (s0_0, s0_1) s1 s2 1 = 0 := by simpa using c'
        have c3 := of_decide_eq_false c
        have hn := next_eq d1 hss (by omega)
        dsimp only at hn
        rw [show nextS (s0_0, s0_1) s1 s2 1 = (bestT s0_0 (madeT s0_0 s0_1 s2 1) s1 (movesS (s0_0, s0_1) s1) 1 (tickN (s0_0, s0_1) s1 s2 1), 0) by unfold nextS; rw [if_neg (by rw [d1]; simp), if_neg c3, if_neg c'']; dsimp only; rw [hn]]
        exact leS_o2 _ 0
    · have d2 : s3 = 0 := of_decide_eq_true c6
      subst d2
      have hlen' : (((madeT s0_0 s0_1 s2 0).1.length : Nat) : Int) = prodL s0_0 := hrows 0 (by decide) (by decide)
      have hx' : ((madeT s0_0 s0_1 s2 0).1).getD (numW s0_0 s1 0).toNat 0 = tickN (s0_0, s0_1) s1 s2 0 := hx
      rw [hx']
      refine ⟨⟨by decide, by decide⟩, ⟨by omega, by omega⟩, ⟨n1, by omega⟩, fun c => ?_, fun c => ⟨fun c' => ⟨⟨by omega, rfl, by omega, by omega⟩, ?_⟩, fun c' => ⟨hp', ⟨⟨fun m hm => (movesS_pre a1 hm).1, a4, a5, hrows⟩, movesS_few a1, fun m hm => (movesS_pre a1 hm).2⟩, ?_⟩⟩⟩
      · exact finN (by unfold nextS; rw [if_neg (by rw [d1]; simp), if_pos (of_decide_eq_true c)])
      · have c'' : tickN (s0_0, s0_1) s1 s2 0 = 0 := by simpa using c'
        rw [show nextS (s0_0, s0_1) s1 s2 0 = (List.replicate s1.length 0, 0) by unfold nextS; rw [if_neg (by rw [d1]; simp), if_neg (of_decide_eq_false c), if_pos c''], Int.toNat_natCast]
        exact leS_t2 _ 0
      · have c'' : ¬ tickN (s0_0, s0_1) s1 s2 0 = 0 := by simpa using c'
        have c3 := of_decide_eq_false c
        have hn := next_eq d1 hss (by omega)
        dsimp only at hn
        rw [show nextS (s0_0, s0_1) s1 s2 0 = (bestT s0_0 (madeT s0_0 s0_1 s2 0) s1 (movesS (s0_0, s0_1) s1) 0 (tickN (s0_0, s0_1) s1 s2 0), 0) by unfold nextS; rw [if_neg (by rw [d1]; simp), if_neg c3, if_neg c'']; dsimp only; rw [hn]]
        exact leS_o2 _ 0
    · exfalso
      have e2 : ¬ s3 = 2 := of_decide_eq_false c2
      have e4 : ¬ s3 = 1 := of_decide_eq_false c4
      have e6 : ¬ s3 = 0 := of_decide_eq_false c6
      omega)
end
end Go.MR
