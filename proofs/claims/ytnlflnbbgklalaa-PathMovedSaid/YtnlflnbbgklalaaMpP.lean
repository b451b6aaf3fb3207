/- Sources made of numbers; signs; components; where joints come to lie. -/
import Derived.Test.YtnlflnbbgklalaaMpO
import Derived.Test.YtnlflnbbgklalaaMpK
namespace Go.MP
open Go Go.Sx Go.Proofs
set_option linter.unusedVariables false
set_option linter.unusedSimpArgs false
noncomputable section

def comp (v : V) (a : Int) : Int := [v.1, v.2.1, v.2.2].getD a.toNat 0
theorem T_component (x y z a : Int) : fnTree (P := P) [] (lpOf []) Try.f57 (encL 0 [.agg tV, .val tI] ((x, y, z), a, ())) =
  Tree.need ((0 : Int) ≤ a ∧ a < (↑(List.length [x, y, z]) : Int)) (Tree.need (Int.toNat a < List.length [x, y, z]) (Tree.leaf (SV.int IntKind.i64 (List.getD [x, y, z] (Int.toNat a) (0 : Int))))) := by kernel_rfl

def c_component : PC P := PC.of (α := V × Int × Unit) 57 [.agg tV, .val tI] (fun x => x) (fun x => x) (fun _ => rfl)
  (fun x => some (0 ≤ x.2.1 ∧ x.2.1 < 3))
  (fun x => .int .i64 (comp x.1 x.2.1)) (by kernel_rfl) (by
    rintro ⟨⟨x, y, z⟩, a, ⟨⟩⟩ hp
    refine fn_of hm (by kernel_rfl) (by kernel_rfl) (T_component x y z a) trivial ?_

    obtain ⟨h0, h1⟩ := hp
    simp only [] at h0 h1
    exact ⟨⟨h0, by simp only [List.length_cons, List.length_nil]; omega⟩, by simp only [List.length_cons, List.length_nil]; omega, rfl⟩)

def signS (a : Int) (low : Bool) (v : V) : Int := if (decide (comp v a ≥ 0) == low) = true then 1000 else -1000
def L_signs : Lay := { slots := [(0, .val tVs), (1, .val tI), (2, .val .bool), (7, .row 2 tI), (8, .val tI)] }
def L_signs_0 : Lay := { slots := [(7, .row 2 tI)] }
def X_signs : Exit → Option Lay
  | .exit 0 => some L_signs_0
  | _ => none
abbrev C_signs : Code := loopC (bodyOf Try.f58) 0
theorem B_signs (l : List V) (a : Int) (b : Bool) (o : List Int) (i : Int) : loopBodyA (P := P) [] (lpOf []) [] 46 noU (inner C_signs) L_signs X_signs (α := List V × Int × Bool × List Int × Int × Unit) (fun x => x) (fun x => x) (l, a, b, o, i, ()) =
  Tree.cond (decide (i < (↑(List.length l) : Int))) (Tree.need ((0 : Int) ≤ i ∧ i < (↑(List.length l) : Int)) (Tree.need ((0 : Int) ≤ i ∧ i < (↑(List.length l) : Int)) (Tree.need ((0 : Int) ≤ i ∧ i < (↑(List.length l) : Int)) (Tree.need ((0 : Int) ≤ a ∧ a < (↑(List.length [(List.getD l (Int.toNat i) ((0 : Int), (0 : Int), (0 : Int))).fst, (List.getD l (Int.toNat i) ((0 : Int), (0 : Int), (0 : Int))).snd.fst, (List.getD l (Int.toNat i) ((0 : Int), (0 : Int), (0 : Int))).snd.snd]) : Int)) (Tree.need (Int.toNat a < List.length [(List.getD l (Int.toNat i) ((0 : Int), (0 : Int), (0 : Int))).fst, (List.getD l (Int.toNat i) ((0 : Int), (0 : Int), (0 : Int))).snd.fst, (List.getD l (Int.toNat i) ((0 : Int), (0 : Int), (0 : Int))).snd.snd]) (Tree.cond (decide (List.getD [(List.getD l (Int.toNat i) ((0 : Int), (0 : Int), (0 : Int))).fst, (List.getD l (Int.toNat i) ((0 : Int), (0 : Int), (0 : Int))).snd.fst, (List.getD l (Int.toNat i) ((0 : Int), (0 : Int), (0 : Int))).snd.snd] (Int.toNat a) (0 : Int) ≥ (0 : Int)) == b) (Tree.need ((List.length o + List.length [(1000 : Int)]) * (8 : Nat) ≤ (140737488355328 : Nat)) (Tree.leaf (Sum.inl (l, a, b, o ++ [(1000 : Int)], IntKind.wrap IntKind.i64 (i + (1 : Int)), PUnit.unit)))) (Tree.need ((List.length o + List.length [(-1000 : Int)]) * (8 : Nat) ≤ (140737488355328 : Nat)) (Tree.leaf (Sum.inl (l, a, b, o ++ [(-1000 : Int)], IntKind.wrap IntKind.i64 (i + (1 : Int)), PUnit.unit)))))))))) (Tree.leaf (Sum.inr (Exit.exit (0 : Nat), Lay.st L_signs_0 noU (o, PUnit.unit)))) := by kernel_rfl

def inv_signs : List V × Int × Bool × List Int × Int × Unit → Prop := fun (l, a, b, o, i, _) => 0 ≤ i ∧ i ≤ l.length ∧ l.length ≤ 4 ∧ 0 ≤ a ∧ a < 3 ∧ o.length = i.toNat
def O_signs : List V × Int × Bool × List Int × Int × Unit → Tree (Exit × St) := fun (l, a, b, o, i, _) => .leaf (.exit 0, L_signs_0.st noU (o ++ (l.drop i.toNat).map (signS a b), ()))
def R_signs : LRun := runOf 46 L_signs (fun x => x) (inv_signs) (O_signs)
theorem K_signs : LoopOk P [] 46 none noU C_signs (R_signs) := by
  refine loop_of hm (cx := []) [] (xl := X_signs) (α := List V × Int × Bool × List Int × Int × Unit) (fun x => x) (fun (l, a, b, o, i, _) => (l.length - i).toNat) (fun _ => rfl) (by kernel_rfl) (by kernel_rfl) ?_ (by kernel_rfl) trivial ?_
  · intro e L' h
    unfold X_signs at h
    split at h <;> cases h <;> kernel_rfl
  · rintro ⟨l, a, b, o, i, ⟨⟩⟩ hinv Q hQ
    refine hold_of_eq (B_signs l a b o i) ?_

    obtain ⟨h0, h1, h2, h3, h4, h5⟩ := hinv
    rw [W_id (n := i + 1) (by omega) (by omega)]
    unfold O_signs at hQ
    dsimp only at hQ
    refine ⟨fun hi => ?_, fun hi => ?_⟩
    · simp only [decide_eq_true_eq] at hi
      have e : o ++ (l.drop i.toNat).map (signS a b) = (o ++ [signS a b (l.getD i.toNat (0, 0, 0))]) ++ (l.drop (i + 1).toNat).map (signS a b) := by
        rw [drop_step ((0 : Int), (0 : Int), (0 : Int)) h0 hi, List.map_cons, List.append_assoc, List.singleton_append]
      have hQ := Eq.mp (congrArg (fun (k : List Int) => Tree.holds Q (Tree.leaf (Exit.exit 0, L_signs_0.st noU (k, ())))) e) hQ
      have hm : ((l.length : Int) - (i + 1)).toNat < ((l.length : Int) - i).toNat := by omega
      refine ⟨⟨h0, hi⟩, ⟨h0, hi⟩, ⟨h0, hi⟩, ⟨h3, by simp only [List.length_cons, List.length_nil]; omega⟩, by simp only [List.length_cons, List.length_nil]; omega, fun hb => ?_, fun hb => ?_⟩
      · have e2 : signS a b (l.getD i.toNat (0, 0, 0)) = 1000 := if_pos hb
        rw [e2] at hQ
        exact ⟨by simp only [List.length_cons, List.length_nil]; omega, ⟨⟨by omega, by omega, h2, h3, h4, by rw [List.length_append, List.length_singleton]; omega⟩, hm⟩, hQ⟩
      · have e2 : signS a b (l.getD i.toNat (0, 0, 0)) = -1000 := if_neg (fun hc => Bool.noConfusion (hb.symm.trans hc))
        rw [e2] at hQ
        exact ⟨by simp only [List.length_cons, List.length_nil]; omega, ⟨⟨by omega, by omega, h2, h3, h4, by rw [List.length_append, List.length_singleton]; omega⟩, hm⟩, hQ⟩
    · simp only [decide_eq_false_iff_not] at hi
      have e : o ++ (l.drop i.toNat).map (signS a b) = o := by rw [drop_end hi, List.map_nil, List.append_nil]
      exact Eq.mp (congrArg (fun (k : List Int) => Tree.holds Q (Tree.leaf (Exit.exit 0, L_signs_0.st noU (k, ())))) e) hQ

theorem T_signs (l : List V) (a : Int) (b : Bool) : fnTree (P := P) [] (lpOf [(0, R_signs)]) Try.f58 (encL 0 [.val tVs, .val tI, .val .bool] (l, a, b, ())) =
  Tree.need (inv_signs (l, a, b, [], (0 : Int), ())) (Tree.leaf (SV.sl (Ty.int IntKind.i64) (List.map (signS a b) (List.drop (Int.toNat (0 : Int)) l)))) := by kernel_rfl

def c_signs : PC P := PC.of (α := List V × Int × Bool × Unit) 58 [.val tVs, .val tI, .val .bool] (fun x => x) (fun x => x) (fun _ => rfl)
  (fun x => some (x.1.length ≤ 4 ∧ 0 ≤ x.2.1 ∧ x.2.1 < 3))
  (fun x => .sl tI (x.1.map (signS x.2.1 x.2.2.1))) (by kernel_rfl) (by
    rintro ⟨l, a, b, ⟨⟩⟩ hp
    refine fn_le hm (by kernel_rfl) (by kernel_rfl) (T_signs l a b) ⟨K_signs, trivial⟩ (by kernel_rfl) ?_

    obtain ⟨h0, h1, h2⟩ := hp
    rw [Int.toNat_zero, List.drop_zero]
    exact ⟨⟨by omega, by omega, h0, h1, h2, rfl⟩, rfl⟩)

def L_kSrc0 : Lay := { slots := [(0, .ptr 1 0), (1, .agg tPath)], boxes := [(1, [.val tIs, .val tI])] }
def L_kSrcI : Lay := { slots := [(0, .ptr 1 0), (3, .ptr 4050 0), (5, .row 145 tSrc), (6, .val tI), (7, .ptr 8050 0), (8, .val tI)], boxes := [(1, [.val tIs, .val tI]), (4050, [.val tI, .val tI, .val tI, .val tVs]), (8050, [.val tI, .row 23 tV])] }
def L_kSrcI_0 : Lay := { slots := [(0, .ptr 1 0), (3, .ptr 4050 0), (5, .row 145 tSrc), (6, .val tI), (7, .ptr 8050 0)], boxes := [(1, [.val tIs, .val tI]), (4050, [.val tI, .val tI, .val tI, .val tVs]), (8050, [.val tI, .row 23 tV])] }
def X_kSrcI : Exit → Option Lay
  | .exit 2 => some L_kSrcI_0
  | _ => none
abbrev C_kSrcI : Code := loopC (inner (loopC (bodyOf Try.f52) 0)) 2
theorem B_kSrcI (o : List Src) (d i : Int) (l : List Int) (k x y z : Int) (q : List V) (e : Int) (s : List V) : loopBodyA (P := P) [c_Next.gc] (lpOf []) [] 50 (usd noU (L_kSrc0.ids ++ rowIds rowBase L_kSrc0.shs)) (inner C_kSrcI) L_kSrcI X_kSrcI (α := Unit × Unit × List Src × Int × Unit × Int × List Int × Int × Int × Int × Int × List V × Int × List V × Unit) (fun x => x) (fun x => x) ((), (), o, d, (), i, l, k, x, y, z, q, e, s, ()) =
  Tree.cond (decide (i < (↑(List.length q) : Int))) (Tree.need ((0 : Int) ≤ k ∧ k < (1099511627776 : Int) ∧ (0 : Int) < (401 : Int)) (Tree.need ((0 : Int) ≤ k + (1 : Int) ∧ k + (1 : Int) < (1099511627776 : Int) ∧ (0 : Int) < (61 : Int)) (Tree.need ((0 : Int) ≤ k + (1 : Int) + (1 : Int) ∧ k + (1 : Int) + (1 : Int) < (1099511627776 : Int) ∧ (0 : Int) < (3 : Int)) (Tree.need ((List.length s + List.length [(IntKind.wrap IntKind.i64 (nextS l k (401 : Int) - (200 : Int)), IntKind.wrap IntKind.i64 (nextS l (k + (1 : Int)) (61 : Int) - (30 : Int)), IntKind.wrap IntKind.i64 (nextS l (k + (1 : Int) + (1 : Int)) (3 : Int) - (1 : Int)))]) * (24 : Nat) ≤ (140737488355328 : Nat)) (Tree.leaf (Sum.inl (PUnit.unit, PUnit.unit, o, d, PUnit.unit, IntKind.wrap IntKind.i64 (i + (1 : Int)), l, k + (1 : Int) + (1 : Int) + (1 : Int), x, y, z, q, e, s ++ [(IntKind.wrap IntKind.i64 (nextS l k (401 : Int) - (200 : Int)), IntKind.wrap IntKind.i64 (nextS l (k + (1 : Int)) (61 : Int) - (30 : Int)), IntKind.wrap IntKind.i64 (nextS l (k + (1 : Int) + (1 : Int)) (3 : Int) - (1 : Int)))], PUnit.unit))))))) (Tree.leaf (Sum.inr (Exit.exit (2 : Nat), Lay.st L_kSrcI_0 (usd noU (Lay.ids L_kSrc0 ++ rowIds rowBase (Lay.shs L_kSrc0))) (PUnit.unit, PUnit.unit, o, d, PUnit.unit, l, k, x, y, z, q, e, s, PUnit.unit)))) := by kernel_rfl

def inv_kSrcI : Unit × Unit × List Src × Int × Unit × Int × List Int × Int × Int × Int × Int × List V × Int × List V × Unit → Prop := fun (_, _, o, d, _, i, l, k, x, y, z, q, e, s, _) => 0 ≤ i ∧ i ≤ q.length ∧ q.length ≤ 20 ∧ 0 ≤ k ∧ k + 3 * (q.length - i) ≤ 1000000000 ∧ s.length = i.toNat ∧ s.any far200 = false
def Z_kSrcI : Unit × Unit × List Src × Int × Unit × Int × List Int × Int × Int × Int × Int × List V × Int × List V × Unit → Unit × Unit × List Src × Int × Unit × List Int × Int × Int × Int × Int × List V × Int × List V × Unit → Prop := fun (_, _, o, d, _, i, l, k, x, y, z, q, e, s, _) (_, _, o', d', _, l', k', x', y', z', q', e', s', _) => o' = o ∧ d' = d ∧ l' = l ∧ k ≤ k' ∧ k' ≤ k + 3 * (q.length - i) ∧ x' = x ∧ y' = y ∧ z' = z ∧ q' = q ∧ e' = e ∧ s'.length = q.length ∧ s'.any far200 = false
theorem E_kSrcI : ∃ o : Unit × Unit × List Src × Int × Unit × Int × List Int × Int × Int × Int × Int × List V × Int × List V × Unit → Unit × Unit × List Src × Int × Unit × List Int × Int × Int × Int × Int × List V × Int × List V × Unit, LoopOk P [] 50 none (usd noU (L_kSrc0.ids ++ rowIds rowBase L_kSrc0.shs)) C_kSrcI (runOf 50 L_kSrcI (fun x => x) (inv_kSrcI) fun a => .leaf (.exit 2, L_kSrcI_0.st (usd noU (L_kSrc0.ids ++ rowIds rowBase L_kSrc0.shs)) (o a))) ∧ ∀ a, inv_kSrcI a → Z_kSrcI a (o a) := by
  refine loop_rel1 hm (cx := [c_Next.gc]) [] (xl := X_kSrcI) (α := Unit × Unit × List Src × Int × Unit × Int × List Int × Int × Int × Int × Int × List V × Int × List V × Unit) (β := Unit × Unit × List Src × Int × Unit × List Int × Int × Int × Int × Int × List V × Int × List V × Unit) (L' := L_kSrcI_0) (fun x => x) (fun (_, _, o, d, _, i, l, k, x, y, z, q, e, s, _) => (q.length - i).toNat) (Z_kSrcI) (.exit 2) (fun x => x) (fun _ => rfl) (by kernel_rfl) (by kernel_rfl) ?_ (by kernel_rfl) trivial ?_
  · intro e L' h
    unfold X_kSrcI at h
    split at h <;> cases h <;> kernel_rfl
  · rintro ⟨⟨⟩, ⟨⟩, o, d, ⟨⟩, i, l, k, x, y, z, q, e, s, ⟨⟩⟩ hinv
    refine hold_of_eq (B_kSrcI o d i l k x y z q e s) ?_

    obtain ⟨h0, h1, h2, h3, h4, h5, h6⟩ := hinv
    have n1 := nextS_rng (l := l) (k := k) (n := 401) (by omega) (by decide)
    have n2 := nextS_rng (l := l) (k := k + 1) (n := 61) (by omega) (by decide)
    have n3 := nextS_rng (l := l) (k := k + 1 + 1) (n := 3) (by omega) (by decide)
    rw [W_id (n := i + 1) (by omega) (by omega), W_id (n := nextS l k 401 - 200) (by omega) (by omega), W_id (n := nextS l (k + 1) 61 - 30) (by omega) (by omega), W_id (n := nextS l (k + 1 + 1) 3 - 1) (by omega) (by omega)]
    have hf : far200 (nextS l k 401 - 200, nextS l (k + 1) 61 - 30, nextS l (k + 1 + 1) 3 - 1) = false := by
      unfold far200
      rw [Bool.not_eq_false', inB_iff]
      refine ⟨?_, ?_, ?_⟩ <;> dsimp only <;> omega
    generalize nextS l k 401 - 200 = a at *
    generalize nextS l (k + 1) 61 - 30 = b at *
    generalize nextS l (k + 1 + 1) 3 - 1 = c at *
    refine ⟨fun hi => ?_, fun hi => ?_⟩
    · simp only [decide_eq_true_eq] at hi
      have hm : ((q.length : Int) - (i + 1)).toNat < ((q.length : Int) - i).toNat := by omega
      refine ⟨⟨h3, by omega, by decide⟩, ⟨by omega, by omega, by decide⟩, ⟨by omega, by omega, by decide⟩, by simp only [List.length_cons, List.length_nil]; omega, ⟨⟨by omega, by omega, h2, by omega, by omega, ?_, ?_⟩, hm⟩, ?_⟩
      · rw [List.length_append, List.length_singleton]; omega
      · rw [List.any_append, h6]; simp [hf]
      · rintro ⟨_, _, o', d', _, l', k', x', y', z', q', e', s', _⟩ ⟨b1, b2, b3, b4, b5, b6, b7, b8, b9, b10, b11, b12⟩
        exact ⟨b1, b2, b3, by omega, by omega, b6, b7, b8, b9, b10, b11, b12⟩
    · simp only [decide_eq_false_iff_not] at hi
      exact ⟨_, rfl, rfl, rfl, rfl, by omega, by omega, rfl, rfl, rfl, rfl, rfl, by omega, h6⟩
def O_kSrcI : Unit × Unit × List Src × Int × Unit × Int × List Int × Int × Int × Int × Int × List V × Int × List V × Unit → Unit × Unit × List Src × Int × Unit × List Int × Int × Int × Int × Int × List V × Int × List V × Unit := Classical.choose (E_kSrcI)
def R_kSrcI : LRun := runOf 50 L_kSrcI (fun x => x) (inv_kSrcI) fun a => .leaf (.exit 2, L_kSrcI_0.st (usd noU (L_kSrc0.ids ++ rowIds rowBase L_kSrc0.shs)) (O_kSrcI a))
theorem K_kSrcI : LoopOk P [] 50 none (usd noU (L_kSrc0.ids ++ rowIds rowBase L_kSrc0.shs)) C_kSrcI (R_kSrcI) := (Classical.choose_spec (E_kSrcI)).1
theorem S_kSrcI : ∀ a, inv_kSrcI a → Z_kSrcI a (O_kSrcI a) := (Classical.choose_spec (E_kSrcI)).2

theorem orderBad_snoc : ∀ {l : List Src} {c : Int} {s : Src}, orderBad c l = false → (∀ t ∈ l, t.1 < s.1) → c < s.1 → s.1 ≤ 99 → orderBad c (l ++ [s]) = false
  | [], c, s, _, _, h1, h2 => by simp [orderBad]; omega
  | t :: r, c, s, h, h1, h2, h3 => by
    rw [orderBad, Bool.or_eq_false_iff] at h
    rw [List.cons_append, orderBad, h.1, Bool.false_or]
    exact orderBad_snoc h.2 (fun u hu => h1 u (by simp [hu])) (h1 t (by simp)) h3
/-- Sources of which nothing is wrong. -/
def okSrcs (q : List V) (o : List Src) (d : Int) : Prop := orderBad 0 o = false ∧ (∀ t ∈ o, t.1 < d) ∧ o.any (pA q) = false ∧ o.any pB = false
theorem okSrcs_errors {q : List V} {o : List Src} {d : Int} (h : okSrcs q o d) (hl : o.length ≤ 4) : errorsS q o = 0 := by
  obtain ⟨h1, _, h2, h3⟩ := h
  unfold errorsS
  rw [if_neg (by omega), if_neg (by simp [h1]), if_neg (by simp [h2]), if_neg (by simp [h3])]
theorem okSrcs_snoc {q : List V} {o : List Src} {d e : Int} {s : List V} (h : okSrcs q o d) (h0 : 0 < d) (hd : d ≤ 99) (h1 : s.length = q.length) (h2 : s.any far200 = false) (he : d < e) : okSrcs q (o ++ [(d, s)]) e := by
  obtain ⟨a1, a2, a3, a4⟩ := h
  refine ⟨orderBad_snoc a1 a2 h0 hd, fun t ht => ?_, ?_, ?_⟩
  · rcases List.mem_append.1 ht with ht | ht
    · have := a2 t ht; omega
    · rw [List.mem_singleton] at ht; subst ht; exact he
  · rw [List.any_append, a3]; simp [pA, h1]
  · rw [List.any_append, a4]; simpa [pB] using h2

theorem okSrcs_mono {q : List V} {o : List Src} {d e : Int} (h : okSrcs q o d) (he : d ≤ e) : okSrcs q o e :=
  ⟨h.1, fun t ht => by have := h.2.1 t ht; omega, h.2.2⟩
def L_kSrcO : Lay := { slots := [(0, .ptr 1 0), (3, .ptr 4050 0), (5, .row 145 tSrc), (6, .val tI)], boxes := [(1, [.val tIs, .val tI]), (4050, [.val tI, .val tI, .val tI, .val tVs])] }
def L_kSrcO_0 : Lay := { slots := [(5, .row 145 tSrc)], boxes := [(1, [.val tIs, .val tI])] }
def X_kSrcO : Exit → Option Lay
  | .exit 0 => some L_kSrcO_0
  | _ => none
abbrev C_kSrcO : Code := loopC (bodyOf Try.f52) 0
theorem B_kSrcO (o : List Src) (d : Int) (l : List Int) (k x y z : Int) (q : List V) : loopBodyA (P := P) [c_Next.gc] (lpOf [(2, R_kSrcI)]) [] 50 (usd noU (L_kSrc0.ids ++ rowIds rowBase L_kSrc0.shs)) (inner C_kSrcO) L_kSrcO X_kSrcO (α := Unit × Unit × List Src × Int × List Int × Int × Int × Int × Int × List V × Unit) (fun x => x) (fun x => x) ((), (), o, d, l, k, x, y, z, q, ()) =
  Tree.cond (decide (d ≤ (5 : Int))) (Tree.cond (decide ((↑(List.length o) : Int) < (3 : Int))) (Tree.need ((0 : Int) ≤ k ∧ k < (1099511627776 : Int) ∧ (0 : Int) < (3 : Int)) (Tree.cond (decide (nextS l k (3 : Int) > (0 : Int))) (Tree.leaf (Sum.inl (PUnit.unit, PUnit.unit, o, IntKind.wrap IntKind.i64 (d + (1 : Int)), l, k + (1 : Int), x, y, z, q, PUnit.unit))) (Tree.need (inv_kSrcI ((), (), o, d, (), (0 : Int), l, k + (1 : Int), x, y, z, q, d, [], ())) (Tree.need ((List.length (O_kSrcI ((), (), o, d, (), (0 : Int), l, k + (1 : Int), x, y, z, q, d, [], ())).snd.snd.fst + List.length [((O_kSrcI ((), (), o, d, (), (0 : Int), l, k + (1 : Int), x, y, z, q, d, [], ())).snd.snd.snd.snd.snd.snd.snd.snd.snd.snd.snd.fst, (O_kSrcI ((), (), o, d, (), (0 : Int), l, k + (1 : Int), x, y, z, q, d, [], ())).snd.snd.snd.snd.snd.snd.snd.snd.snd.snd.snd.snd.fst)]) * (32 : Nat) ≤ (140737488355328 : Nat)) (Tree.leaf (Sum.inl (PUnit.unit, PUnit.unit, (O_kSrcI ((), (), o, d, (), (0 : Int), l, k + (1 : Int), x, y, z, q, d, [], ())).snd.snd.fst ++ [((O_kSrcI ((), (), o, d, (), (0 : Int), l, k + (1 : Int), x, y, z, q, d, [], ())).snd.snd.snd.snd.snd.snd.snd.snd.snd.snd.snd.fst, (O_kSrcI ((), (), o, d, (), (0 : Int), l, k + (1 : Int), x, y, z, q, d, [], ())).snd.snd.snd.snd.snd.snd.snd.snd.snd.snd.snd.snd.fst)], IntKind.wrap IntKind.i64 ((O_kSrcI ((), (), o, d, (), (0 : Int), l, k + (1 : Int), x, y, z, q, d, [], ())).snd.snd.snd.fst + (1 : Int)), (O_kSrcI ((), (), o, d, (), (0 : Int), l, k + (1 : Int), x, y, z, q, d, [], ())).snd.snd.snd.snd.snd.fst, (O_kSrcI ((), (), o, d, (), (0 : Int), l, k + (1 : Int), x, y, z, q, d, [], ())).snd.snd.snd.snd.snd.snd.fst, (O_kSrcI ((), (), o, d, (), (0 : Int), l, k + (1 : Int), x, y, z, q, d, [], ())).snd.snd.snd.snd.snd.snd.snd.fst, (O_kSrcI ((), (), o, d, (), (0 : Int), l, k + (1 : Int), x, y, z, q, d, [], ())).snd.snd.snd.snd.snd.snd.snd.snd.fst, (O_kSrcI ((), (), o, d, (), (0 : Int), l, k + (1 : Int), x, y, z, q, d, [], ())).snd.snd.snd.snd.snd.snd.snd.snd.snd.fst, (O_kSrcI ((), (), o, d, (), (0 : Int), l, k + (1 : Int), x, y, z, q, d, [], ())).snd.snd.snd.snd.snd.snd.snd.snd.snd.snd.fst, PUnit.unit))))))) (Tree.leaf (Sum.inr (Exit.exit (0 : Nat), Lay.st L_kSrcO_0 (usd noU (Lay.ids L_kSrc0 ++ rowIds rowBase (Lay.shs L_kSrc0))) (o, l, k, PUnit.unit))))) (Tree.leaf (Sum.inr (Exit.exit (0 : Nat), Lay.st L_kSrcO_0 (usd noU (Lay.ids L_kSrc0 ++ rowIds rowBase (Lay.shs L_kSrc0))) (o, l, k, PUnit.unit)))) := by kernel_rfl

def inv_kSrcO : Unit × Unit × List Src × Int × List Int × Int × Int × Int × Int × List V × Unit → Prop := fun (_, _, o, d, l, k, x, y, z, q, _) => 1 ≤ d ∧ d ≤ 6 ∧ q.length ≤ 20 ∧ 0 ≤ k ∧ k + 100 * (6 - d) ≤ 1000000000 ∧ o.length ≤ 3 ∧ okSrcs q o d
def Z_kSrcO : Unit × Unit × List Src × Int × List Int × Int × Int × Int × Int × List V × Unit → List Src × List Int × Int × Unit → Prop := fun (_, _, o, d, l, k, x, y, z, q, _) (o', l', k', _) => l' = l ∧ k ≤ k' ∧ k' ≤ k + 100 * (6 - d) ∧ o'.length ≤ 3 ∧ okSrcs q o' 6
theorem E_kSrcO : ∃ o : Unit × Unit × List Src × Int × List Int × Int × Int × Int × Int × List V × Unit → List Src × List Int × Int × Unit, LoopOk P [] 50 none (usd noU (L_kSrc0.ids ++ rowIds rowBase L_kSrc0.shs)) C_kSrcO (runOf 50 L_kSrcO (fun x => x) (inv_kSrcO) fun a => .leaf (.exit 0, L_kSrcO_0.st (usd noU (L_kSrc0.ids ++ rowIds rowBase L_kSrc0.shs)) (o a))) ∧ ∀ a, inv_kSrcO a → Z_kSrcO a (o a) := by
  refine loop_rel1 hm (cx := [c_Next.gc]) [(2, R_kSrcI)] (xl := X_kSrcO) (α := Unit × Unit × List Src × Int × List Int × Int × Int × Int × Int × List V × Unit) (β := List Src × List Int × Int × Unit) (L' := L_kSrcO_0) (fun x => x) (fun (_, _, o, d, _) => (6 - d).toNat) (Z_kSrcO) (.exit 0) (fun x => x) (fun _ => rfl) (by kernel_rfl) (by kernel_rfl) ?_ (by kernel_rfl) ⟨K_kSrcI, trivial⟩ ?_
  · intro e L' h
    unfold X_kSrcO at h
    split at h <;> cases h <;> kernel_rfl
  · rintro ⟨⟨⟩, ⟨⟩, o, d, l, k, x, y, z, q, ⟨⟩⟩ hinv
    refine hold_of_eq (B_kSrcO o d l k x y z q) ?_

    obtain ⟨h0, h1, h2, h3, h4, h5, h6⟩ := hinv
    refine ⟨fun ha => ?_, fun ha => ?_⟩
    · simp only [decide_eq_true_eq] at ha
      have hm : (6 - (d + 1)).toNat < (6 - d).toNat := by omega
      refine ⟨fun hb => ?_, fun hb => ?_⟩
      · simp only [decide_eq_true_eq] at hb
        refine ⟨⟨h3, by omega, by decide⟩, fun hc => ?_, fun hc => ?_⟩
        · rw [W_id (n := d + 1) (by omega) (by omega)]
          refine ⟨⟨⟨by omega, by omega, h2, by omega, by omega, h5, okSrcs_mono h6 (by omega)⟩, hm⟩, ?_⟩
          rintro ⟨o', l', k', _⟩ ⟨b1, b2, b3, b4, b5⟩
          exact ⟨b1, by omega, by omega, b4, b5⟩
        · have hi : inv_kSrcI ((), (), o, d, (), (0 : Int), l, k + (1 : Int), x, y, z, q, d, [], ()) := ⟨by omega, by omega, h2, by omega, by omega, rfl, rfl⟩
          refine ⟨hi, ?_⟩
          have hS := S_kSrcI _ hi
          generalize O_kSrcI ((), (), o, d, (), (0 : Int), l, k + (1 : Int), x, y, z, q, d, [], ()) = r at *
          obtain ⟨_, _, o', d', _, l', k', x', y', z', q', e', s', _⟩ := r
          obtain ⟨rfl, rfl, rfl, c1, c2, rfl, rfl, rfl, rfl, rfl, c3, c4⟩ := hS
          simp only [] at *
          rw [W_id (n := e' + 1) (by omega) (by omega)]
          refine ⟨by simp only [List.length_cons, List.length_nil]; omega, ⟨⟨by omega, by omega, h2, by omega, by omega, ?_, okSrcs_snoc h6 (by omega) (by omega) c3 c4 (by omega)⟩, hm⟩, ?_⟩
          · rw [List.length_append, List.length_singleton]; omega
          · rintro ⟨o'', l'', k'', _⟩ ⟨b1, b2, b3, b4, b5⟩
            exact ⟨b1, by omega, by omega, b4, b5⟩
      · exact ⟨_, rfl, rfl, by omega, by omega, h5, okSrcs_mono h6 h1⟩
    · exact ⟨_, rfl, rfl, by omega, by omega, h5, okSrcs_mono h6 h1⟩
def O_kSrcO : Unit × Unit × List Src × Int × List Int × Int × Int × Int × Int × List V × Unit → List Src × List Int × Int × Unit := Classical.choose (E_kSrcO)
def R_kSrcO : LRun := runOf 50 L_kSrcO (fun x => x) (inv_kSrcO) fun a => .leaf (.exit 0, L_kSrcO_0.st (usd noU (L_kSrc0.ids ++ rowIds rowBase L_kSrc0.shs)) (O_kSrcO a))
theorem K_kSrcO : LoopOk P [] 50 none (usd noU (L_kSrc0.ids ++ rowIds rowBase L_kSrc0.shs)) C_kSrcO (R_kSrcO) := (Classical.choose_spec (E_kSrcO)).1
theorem S_kSrcO : ∀ a, inv_kSrcO a → Z_kSrcO a (O_kSrcO a) := (Classical.choose_spec (E_kSrcO)).2

def L_kSources : Lay := { slots := [(0, .ptr 1 0), (1, .agg tPath)], boxes := [(1, [.val tIs, .val tI])] }
def T_kSources_t (x y z : Int) (q : List V) (l : List Int) (k : Int) : Tree MOut :=
  Tree.need (inv_kSrcO ((), (), [], (1 : Int), l, k, x, y, z, q, ())) (Tree.leaf { res := SV.sl tSrc (O_kSrcO ((), (), [], (1 : Int), l, k, x, y, z, q, ())).fst, boxes := [[SV.sl tI (O_kSrcO ((), (), [], (1 : Int), l, k, x, y, z, q, ())).snd.fst, SV.int IntKind.i64 (O_kSrcO ((), (), [], (1 : Int), l, k, x, y, z, q, ())).snd.snd.fst]] })
theorem T_kSources (x y z : Int) (q : List V) (l : List Int) (k : Int) : mTree (P := P) [] (lpOf [(0, R_kSrcO)]) Try.f52 L_kSources false ((), ((x, y, z), q), l, k, ()) = T_kSources_t x y z q l k := by kernel_rfl

def pr_kSources : Unit × Pth × List Int × Int × Unit → Prop := fun (_, p, l, k, _) => 0 ≤ k ∧ k ≤ 500000000 ∧ p.2.length ≤ 20
def N_kSources : Unit × Pth × List Int × Int × Unit → List Src × Int → MOut := fun (_, p, l, k, _) b => ⟨.sl tSrc b.1, [[.sl tI l, .int .i64 b.2]], []⟩
def Z_kSources : Unit × Pth × List Int × Int × Unit → List Src × Int → Prop := fun (_, p, l, k, _) b => b.1.length ≤ 3 ∧ errorsS p.2 b.1 = 0 ∧ k ≤ b.2 ∧ b.2 ≤ k + 600
theorem X_kSources : ∃ f : Unit × Pth × List Int × Int × Unit → List Src × Int, ∀ a, pr_kSources a → (fun a b => MFnOk P 52 L_kSources a (N_kSources a b) ∧ Z_kSources a b) a (f a) := by
  refine choose_val (α := Unit × Pth × List Int × Int × Unit) (β := List Src × Int) (pr := pr_kSources) (R := fun a b => MFnOk P 52 L_kSources a (N_kSources a b) ∧ Z_kSources a b) ?_
  rintro ⟨⟨⟩, ⟨⟨x, y, z⟩, q⟩, l, k, ⟨⟩⟩ hp
  have key : (T_kSources_t x y z q l k).holds (fun s => ∃ b, s = N_kSources ((), ((x, y, z), q), l, k, ()) b ∧ Z_kSources ((), ((x, y, z), q), l, k, ()) b) := by
    unfold T_kSources_t

    obtain ⟨h0, h1, h2⟩ := hp
    have hinv : inv_kSrcO ((), (), [], (1 : Int), l, k, x, y, z, q, ()) := ⟨by omega, by omega, h2, h0, by omega, by simp, rfl, by simp, rfl, rfl⟩
    have hS := S_kSrcO _ hinv
    generalize O_kSrcO ((), (), [], (1 : Int), l, k, x, y, z, q, ()) = o at *
    obtain ⟨o', l', k', _⟩ := o
    obtain ⟨rfl, h4, h5, h6, h7⟩ := hS
    refine ⟨hinv, ?_⟩
    exact ⟨(o', k'), rfl, h6, okSrcs_errors h7 (by show o'.length ≤ 4; omega), h4, by show k' ≤ k + 600; omega⟩
  obtain ⟨s, ⟨b, hs, hb⟩, h⟩ := m_rel hm (own := false) (by kernel_rfl) (by kernel_rfl) (by kernel_rfl) (T_kSources x y z q l k) ⟨K_kSrcO, trivial⟩ key
  subst hs
  exact ⟨b, h, hb⟩
def V_kSources : Unit × Pth × List Int × Int × Unit → List Src × Int := Classical.choose X_kSources
theorem S_kSources : ∀ a, pr_kSources a → Z_kSources a (V_kSources a) := fun a h => ((Classical.choose_spec X_kSources) a h).2
def c_kSources : MC P := MC.of (α := Unit × Pth × List Int × Int × Unit) 52 L_kSources (fun x => x) (fun x => x) (fun _ => rfl) (fun a => some (pr_kSources a)) (fun a => N_kSources a (V_kSources a)) (by kernel_rfl) (by kernel_rfl) (by kernel_rfl) (fun a h => ((Classical.choose_spec X_kSources) a h).1)

end
end Go.MP
