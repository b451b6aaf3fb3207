/- Sorting by rank: slices.SortStableFunc of rig.Merge. -/
import Derived.Test.YtmolckndbmjgfaaMrBa
namespace Go.MR
open Go Go.Sx Go.Proofs
set_option linter.unusedVariables false
set_option linter.unusedSimpArgs false
noncomputable section
abbrev tReq : Ty := .pair tI (.pair tI tI)
abbrev Req := Int × Int × Int
abbrev zReq : Req := (0, 0, 0)
def rkS (q : List Req) (i : Int) : Int := (q.getD i.toNat (0, 0, 0)).2.2
def ltR (q : List Req) (i j : Int) : Bool := decide (IntKind.wrap IntKind.i64 (rkS q i - rkS q j) < 0)
def L_mrg1 : Lay := { slots := [(0, .val tI), (1, .val tI), (2, .ptr 1 0)], boxes := [(1, [.val (.sl tReq)])] }
theorem T_mrg1 (i j : Int) (q : List Req) : mTree (P := P) [] (lpOf []) Try.f110 L_mrg1 true (i, j, (), q, ()) =
  Tree.need ((0 : Int) ≤ i ∧ i < (↑(List.length q) : Int)) (Tree.need ((0 : Int) ≤ j ∧ j < (↑(List.length q) : Int)) (Tree.leaf { res := SV.int IntKind.i64 (IntKind.wrap IntKind.i64 ((List.getD q (Int.toNat i) ((0 : Int), (0 : Int), (0 : Int))).snd.snd - (List.getD q (Int.toNat j) ((0 : Int), (0 : Int), (0 : Int))).snd.snd)), boxes := [[SV.sl tReq q]] })) := by kernel_rfl
def c_mrg1 : MC P := MC.of (α := Int × Int × Unit × List Req × Unit) 110 L_mrg1 (fun x => x) (fun x => x) (fun _ => rfl)
  (fun (i, j, _, q, _) => some ((0 ≤ i ∧ i < q.length) ∧ (0 ≤ j ∧ j < q.length)))
  (fun (i, j, _, q, _) => ⟨.int .i64 (IntKind.wrap IntKind.i64 (rkS q i - rkS q j)), [[.sl tReq q]], []⟩) (by kernel_rfl) (by kernel_rfl) (by kernel_rfl) (by
    rintro ⟨i, j, ⟨⟩, q, ⟨⟩⟩ hp
    refine m_of hm (own := true) (by kernel_rfl) (by kernel_rfl) (by kernel_rfl) (T_mrg1 i j q) trivial ?_
    obtain ⟨h0, h1⟩ : (0 ≤ i ∧ i < q.length) ∧ (0 ≤ j ∧ j < q.length) := hp
    exact ⟨h0, h1, rfl⟩)
def inQ (q : List Req) (l : List Int) : Prop := ∀ x ∈ l, 0 ≤ x ∧ x < q.length
theorem inQ_set {q : List Req} {l : List Int} {i : Nat} {v : Int} (h : inQ q l) (hv : 0 ≤ v ∧ v < q.length) : inQ q (l.set i v) := fun x hx => by
  rcases List.mem_or_eq_of_mem_set hx with hx | rfl
  · exact h x hx
  · exact hv
theorem inQ_swp {q : List Req} {l : List Int} {j : Int} (h : inQ q l) (h0 : j.toNat < l.length) (h1 : (j - 1).toNat < l.length) : inQ q (swp l j) :=
  inQ_set (inQ_set h (h _ (getD_mem h1))) (h _ (getD_mem h0))
theorem inQ_insJ {q : List Req} {lt : Int → Int → Bool} {a : Int} (ha : 0 ≤ a) : ∀ (k : Nat) (j : Int) (l : List Int), inQ q l → a ≤ j → j < l.length → inQ q (insJ lt a k j l)
  | 0, _, _, h, _, _ => h
  | k + 1, j, l, h, h0, h1 => by
    rw [insJ]
    split
    · rename_i c
      rw [Bool.and_eq_true, decide_eq_true_eq] at c
      exact inQ_insJ ha k (j - 1) _ (inQ_swp h (by omega) (by omega)) (by omega) (by rw [swp_len]; omega)
    · exact h
def L_cso2 : Lay := { slots := [(0, .rowk 50 3 tI), (1, .val tI), (2, .val tI), (3, .clo 110 [(1, 0)]), (8, .val tI), (9, .val tI)], boxes := [(1, [.val (.sl tReq)])] }
def L_cso2_0 : Lay := { slots := [(0, .rowk 50 3 tI), (1, .val tI), (2, .val tI), (3, .clo 110 [(1, 0)]), (8, .val tI)], boxes := [(1, [.val (.sl tReq)])] }
def X_cso2 : Exit → St → Option Lay
  | .exit 2, _ => some L_cso2_0
  | _, _ => none
abbrev C_cso2 : Code := loopC (inner (loopC (bodyOf Try.f150) 0)) 2
theorem B_cso2 (l : List Int) (a b i j : Int) (q : List Req) : loopBodyA (P := P) [c_mrg1.gc] (lpOf []) [] 53 (usd noU [1, 50]) (inner C_cso2) L_cso2 X_cso2 (α := List Int × Int × Int × Unit × Int × Int × List Req × Unit) (fun x => x) (fun x => x) (l, a, b, (), i, j, q, ()) =
  Tree.cond (decide (j > a)) (Tree.need ((0 : Int) ≤ j ∧ j < (↑(List.length l) : Int)) (Tree.need (Int.toNat j < List.length l) (Tree.need ((0 : Int) ≤ IntKind.wrap IntKind.i64 (j - (1 : Int)) ∧ IntKind.wrap IntKind.i64 (j - (1 : Int)) < (↑(List.length l) : Int)) (Tree.need (Int.toNat (IntKind.wrap IntKind.i64 (j - (1 : Int))) < List.length l) (Tree.need (((0 : Int) ≤ List.getD l (Int.toNat j) (0 : Int) ∧ List.getD l (Int.toNat j) (0 : Int) < (↑(List.length q) : Int)) ∧ (0 : Int) ≤ List.getD l (Int.toNat (IntKind.wrap IntKind.i64 (j - (1 : Int)))) (0 : Int) ∧ List.getD l (Int.toNat (IntKind.wrap IntKind.i64 (j - (1 : Int)))) (0 : Int) < (↑(List.length q) : Int)) (Tree.cond (decide (IntKind.wrap IntKind.i64 (rkS q (List.getD l (Int.toNat j) (0 : Int)) - rkS q (List.getD l (Int.toNat (IntKind.wrap IntKind.i64 (j - (1 : Int)))) (0 : Int))) < (0 : Int))) (Tree.need ((0 : Int) ≤ IntKind.wrap IntKind.i64 (j - (1 : Int)) ∧ IntKind.wrap IntKind.i64 (j - (1 : Int)) < (↑(List.length l) : Int)) (Tree.need (Int.toNat (IntKind.wrap IntKind.i64 (j - (1 : Int))) < List.length l) (Tree.need ((0 : Int) ≤ j ∧ j < (↑(List.length l) : Int)) (Tree.need (Int.toNat j < List.length l) (Tree.need ((0 : Int) ≤ j ∧ j < (↑(List.length l) : Int)) (Tree.need (Int.toNat j < List.length l) (Tree.need ((0 : Int) ≤ IntKind.wrap IntKind.i64 (j - (1 : Int)) ∧ IntKind.wrap IntKind.i64 (j - (1 : Int)) < (↑(List.length (List.set l (Int.toNat j) (List.getD l (Int.toNat (IntKind.wrap IntKind.i64 (j - (1 : Int)))) (0 : Int)))) : Int)) (Tree.need (Int.toNat (IntKind.wrap IntKind.i64 (j - (1 : Int))) < List.length (List.set l (Int.toNat j) (List.getD l (Int.toNat (IntKind.wrap IntKind.i64 (j - (1 : Int)))) (0 : Int)))) (Tree.leaf (Sum.inl (List.set (List.set l (Int.toNat j) (List.getD l (Int.toNat (IntKind.wrap IntKind.i64 (j - (1 : Int)))) (0 : Int))) (Int.toNat (IntKind.wrap IntKind.i64 (j - (1 : Int)))) (List.getD l (Int.toNat j) (0 : Int)), a, b, PUnit.unit, i, IntKind.wrap IntKind.i64 (j - (1 : Int)), q, PUnit.unit))))))))))) (Tree.leaf (Sum.inr (Exit.exit (2 : Nat), Lay.st L_cso2_0 (usd noU [(1 : Nat), (50 : Nat)]) (l, a, b, PUnit.unit, i, q, PUnit.unit)))))))))) (Tree.leaf (Sum.inr (Exit.exit (2 : Nat), Lay.st L_cso2_0 (usd noU [(1 : Nat), (50 : Nat)]) (l, a, b, PUnit.unit, i, q, PUnit.unit)))) := by kernel_rfl
def inv_cso2 : List Int × Int × Int × Unit × Int × Int × List Req × Unit → Prop := fun (l, a, b, _, i, j, q, _) => 0 ≤ a ∧ a ≤ j ∧ j < l.length ∧ (l.length : Int) < 2 ^ 62 ∧ inQ q l
def O_cso2 : List Int × Int × Int × Unit × Int × Int × List Req × Unit → Tree (Exit × St) := fun (l, a, b, _, i, j, q, _) => .leaf (.exit 2, L_cso2_0.st (usd noU [1, 50]) (insJ (ltR q) a (j - a).toNat j l, a, b, (), i, q, ()))
def R_cso2 : LRun := runOf 53 L_cso2 (fun x => x) (inv_cso2) (O_cso2)
theorem K_cso2 : LoopOk P [] 53 none (usd noU [1, 50]) C_cso2 (R_cso2) := by
  refine loop_of hm (cx := [c_mrg1.gc]) [] (xl := X_cso2) (α := List Int × Int × Int × Unit × Int × Int × List Req × Unit) (fun x => x) (fun (l, a, b, _, i, j, q, _) => (j - a).toNat) (fun _ => rfl) (by kernel_rfl) (by kernel_rfl) ?_ (by kernel_rfl) trivial ?_
  · intro e S L' h
    unfold X_cso2 at h
    split at h <;> first | (cases h; done) | (cases h; kernel_rfl) | (rcases bif_some h with h | h <;> cases h <;> kernel_rfl)
  · rintro ⟨l, a, b, ⟨⟩, i, j, q, ⟨⟩⟩ hinv Q hQ
    refine hold_of_eq (B_cso2 l a b i j q) ?_
    obtain ⟨h0, h1, h2, h3, h4⟩ := hinv
    have hQ' : Q (.exit 2, L_cso2_0.st (usd noU [1, 50]) (insJ (ltR q) a (j - a).toNat j l, a, b, (), i, q, ())) := hQ
    refine ⟨fun c1 => ?_, fun c1 => ?_⟩
    · have d1 : j > a := of_decide_eq_true c1
      rw [W_id (n := j - 1) (by omega) (by omega)]
      rw [show (j - a).toNat = (j - 1 - a).toNat + 1 by omega, insJ] at hQ'
      have b1 : 0 ≤ j ∧ j < (l.length : Int) := ⟨by omega, h2⟩
      have b2 : j.toNat < l.length := by omega
      have b3 : 0 ≤ j - 1 ∧ j - 1 < (l.length : Int) := ⟨by omega, by omega⟩
      have b4 : (j - 1).toNat < l.length := by omega
      refine ⟨b1, b2, b3, b4, ⟨h4 _ (getD_mem b2), h4 _ (getD_mem b4)⟩, fun c2 => ⟨b3, b4, b1, b2, b1, b2, by rw [List.length_set]; exact b3, by rw [List.length_set]; exact b4, ?_⟩, fun c2 => ?_⟩
      · rw [if_pos (by rw [c1, show ltR q (l.getD j.toNat 0) (l.getD (j - 1).toNat 0) = true from c2]; rfl)] at hQ'
        refine ⟨⟨⟨h0, by omega, ?_, ?_, inQ_swp h4 b2 b4⟩, by show (j - 1 - a).toNat < (j - a).toNat; omega⟩, hQ'⟩
        · rw [List.length_set, List.length_set]; omega
        · rw [List.length_set, List.length_set]; exact h3
      · rw [if_neg (by rw [show ltR q (l.getD j.toNat 0) (l.getD (j - 1).toNat 0) = false from c2, Bool.and_false]; decide)] at hQ'
        exact hQ'
    · have d1 : ¬ j > a := of_decide_eq_false c1
      rw [show (j - a).toNat = 0 by omega, insJ] at hQ'
      exact hQ'
def L_cso0 : Lay := { slots := [(0, .rowk 50 3 tI), (1, .val tI), (2, .val tI), (3, .clo 110 [(1, 0)]), (8, .val tI)], boxes := [(1, [.val (.sl tReq)])] }
def L_cso0_0 : Lay := { slots := [(0, .rowk 50 3 tI)], boxes := [(1, [.val (.sl tReq)])] }
def X_cso0 : Exit → St → Option Lay
  | .exit 0, _ => some L_cso0_0
  | _, _ => none
abbrev C_cso0 : Code := loopC (bodyOf Try.f150) 0
theorem B_cso0 (l : List Int) (a b i : Int) (q : List Req) : loopBodyA (P := P) [] (lpOf [(2, R_cso2)]) [] 53 (usd noU [1, 50]) (inner C_cso0) L_cso0 X_cso0 (α := List Int × Int × Int × Unit × Int × List Req × Unit) (fun x => x) (fun x => x) (l, a, b, (), i, q, ()) =
  Tree.cond (decide (i < b)) (Tree.need (inv_cso2 (l, a, b, (), i, i, q, ())) (Tree.leaf (Sum.inl (insJ (ltR q) a (Int.toNat (i - a)) i l, a, b, PUnit.unit, IntKind.wrap IntKind.i64 (i + (1 : Int)), q, PUnit.unit)))) (Tree.leaf (Sum.inr (Exit.exit (0 : Nat), Lay.st L_cso0_0 (usd noU [(1 : Nat), (50 : Nat)]) (l, q, PUnit.unit)))) := by kernel_rfl
def inv_cso0 : List Int × Int × Int × Unit × Int × List Req × Unit → Prop := fun (l, a, b, _, i, q, _) => 0 ≤ a ∧ a ≤ i ∧ b ≤ l.length ∧ (l.length : Int) < 2 ^ 62 ∧ inQ q l
def O_cso0 : List Int × Int × Int × Unit × Int × List Req × Unit → Tree (Exit × St) := fun (l, a, b, _, i, q, _) => .leaf (.exit 0, L_cso0_0.st (usd noU [1, 50]) (isO (ltR q) a (b - i).toNat i l, q, ()))
def R_cso0 : LRun := runOf 53 L_cso0 (fun x => x) (inv_cso0) (O_cso0)
theorem K_cso0 : LoopOk P [] 53 none (usd noU [1, 50]) C_cso0 (R_cso0) := by
  refine loop_of hm (cx := []) [(2, R_cso2)] (xl := X_cso0) (α := List Int × Int × Int × Unit × Int × List Req × Unit) (fun x => x) (fun (l, a, b, _, i, q, _) => (b - i).toNat) (fun _ => rfl) (by kernel_rfl) (by kernel_rfl) ?_ (by kernel_rfl) ⟨K_cso2, trivial⟩ ?_
  · intro e S L' h
    unfold X_cso0 at h
    split at h <;> first | (cases h; done) | (cases h; kernel_rfl) | (rcases bif_some h with h | h <;> cases h <;> kernel_rfl)
  · rintro ⟨l, a, b, ⟨⟩, i, q, ⟨⟩⟩ hinv Q hQ
    refine hold_of_eq (B_cso0 l a b i q) ?_
    obtain ⟨h0, h1, h2, h3, h4⟩ := hinv
    have hQ' : Q (.exit 0, L_cso0_0.st (usd noU [1, 50]) (isO (ltR q) a (b - i).toNat i l, q, ())) := hQ
    refine ⟨fun c1 => ?_, fun c1 => ?_⟩
    · have d1 : i < b := of_decide_eq_true c1
      rw [W_id (n := i + 1) (by omega) (by omega)]
      rw [show (b - i).toNat = (b - (i + 1)).toNat + 1 by omega, isO] at hQ'
      have hl := insJ_len (ltR q) a (i - a).toNat i l
      exact ⟨⟨h0, h1, by omega, h3, h4⟩, ⟨⟨h0, by omega, by rw [hl]; exact h2, by rw [hl]; exact h3, inQ_insJ h0 _ _ _ h4 h1 (by omega)⟩, by show (b - (i + 1)).toNat < (b - i).toNat; omega⟩, hQ'⟩
    · have d1 : ¬ i < b := of_decide_eq_false c1
      rw [show (b - i).toNat = 0 by omega, isO] at hQ'
      exact hQ'
def L_cso : Lay := { slots := [(0, .rowk 50 3 tI), (1, .val tI), (2, .val tI), (3, .clo 110 [(1, 0)])], boxes := [(1, [.val (.sl tReq)])] }
theorem T_cso (l : List Int) (a b : Int) (q : List Req) : mTree (P := P) [] (lpOf [(0, R_cso0)]) Try.f150 L_cso true (l, a, b, (), q, ()) =
  Tree.need (inv_cso0 (l, a, b, (), IntKind.wrap IntKind.i64 (a + (1 : Int)), q, ())) (Tree.leaf { res := SV.tup [], boxes := [[SV.sl tReq q]], news := [Ob.row (3 : TypeId) tI (isO (ltR q) a (Int.toNat (b - IntKind.wrap IntKind.i64 (a + (1 : Int)))) (IntKind.wrap IntKind.i64 (a + (1 : Int))) l)] ++ [] }) := by kernel_rfl
def c_cso : MC P := MC.of (α := List Int × Int × Int × Unit × List Req × Unit) 150 L_cso (fun x => x) (fun x => x) (fun _ => rfl)
  (fun (l, a, b, _, q, _) => some (0 ≤ a ∧ a ≤ b ∧ b ≤ l.length ∧ (l.length : Int) < 2 ^ 62 ∧ inQ q l))
  (fun (l, a, b, _, q, _) => ⟨.tup [], [[.sl tReq q]], [.row 3 tI (isO (ltR q) a (b - (a + 1)).toNat (a + 1) l)]⟩) (by kernel_rfl) (by kernel_rfl) (by kernel_rfl) (by
    rintro ⟨l, a, b, ⟨⟩, q, ⟨⟩⟩ hp
    refine m_of hm (own := true) (by kernel_rfl) (by kernel_rfl) (by kernel_rfl) (T_cso l a b q) ⟨K_cso0, trivial⟩ ?_
    obtain ⟨h0, h1, h2, h3, h4⟩ : 0 ≤ a ∧ a ≤ b ∧ b ≤ l.length ∧ (l.length : Int) < 2 ^ 62 ∧ inQ q l := hp
    rw [W_id (n := a + 1) (by omega) (by omega)]
    exact ⟨⟨h0, by omega, h2, h3, h4⟩, rfl⟩)
def L_stb0 : Lay := { slots := [(0, .rowk 50 3 tI), (1, .val tI), (2, .clo 110 [(1, 0)]), (6, .val tI), (7, .val tI), (8, .val tI)], boxes := [(1, [.val (.sl tReq)])] }
def L_stb0_0 : Lay := { slots := [(0, .rowk 50 3 tI), (1, .val tI), (2, .clo 110 [(1, 0)]), (6, .val tI), (7, .val tI)], boxes := [(1, [.val (.sl tReq)])] }
def X_stb0 : Exit → St → Option Lay
  | .exit 0, _ => some L_stb0_0
  | _, _ => none
abbrev C_stb0 : Code := loopC (bodyOf Try.f140) 0
theorem B_stb0 (l : List Int) (n s a b : Int) (q : List Req) : loopBodyA (P := P) [] (lpOf []) [] 63 (usd noU [1, 50]) (inner C_stb0) L_stb0 X_stb0 (α := List Int × Int × Unit × Int × Int × Int × List Req × Unit) (fun x => x) (fun x => x) (l, n, (), s, a, b, q, ()) =
  Tree.cond (decide (b ≤ n)) (Tree.fail (1018 : Nat)) (Tree.leaf (Sum.inr (Exit.exit (0 : Nat), Lay.st L_stb0_0 (usd noU [(1 : Nat), (50 : Nat)]) (l, n, PUnit.unit, s, a, q, PUnit.unit)))) := by kernel_rfl
def inv_stb0 : List Int × Int × Unit × Int × Int × Int × List Req × Unit → Prop := fun (l, n, _, s, a, b, q, _) => n < b
def O_stb0 : List Int × Int × Unit × Int × Int × Int × List Req × Unit → Tree (Exit × St) := fun (l, n, _, s, a, b, q, _) => .leaf (.exit 0, L_stb0_0.st (usd noU [1, 50]) (l, n, (), s, a, q, ()))
def R_stb0 : LRun := runOf 63 L_stb0 (fun x => x) (inv_stb0) (O_stb0)
theorem K_stb0 : LoopOk P [] 63 none (usd noU [1, 50]) C_stb0 (R_stb0) := by
  refine loop_of hm (cx := []) [] (xl := X_stb0) (α := List Int × Int × Unit × Int × Int × Int × List Req × Unit) (fun x => x) (fun _ => 0) (fun _ => rfl) (by kernel_rfl) (by kernel_rfl) ?_ (by kernel_rfl) trivial ?_
  · intro e S L' h
    unfold X_stb0 at h
    split at h <;> first | (cases h; done) | (cases h; kernel_rfl) | (rcases bif_some h with h | h <;> cases h <;> kernel_rfl)
  · rintro ⟨l, n, ⟨⟩, s, a, b, q, ⟨⟩⟩ hinv Q hQ
    refine hold_of_eq (B_stb0 l n s a b q) ?_
    have h : n < b := hinv
    exact ⟨fun c1 => absurd (of_decide_eq_true c1 : b ≤ n) (by omega), fun _ => hQ⟩
def L_stb2 : Lay := { slots := [(0, .rowk 50 3 tI), (1, .val tI), (2, .clo 110 [(1, 0)]), (6, .val tI)], boxes := [(1, [.val (.sl tReq)])] }
def L_stb2_0 : Lay := { slots := [(0, .rowk 50 3 tI)], boxes := [(1, [.val (.sl tReq)])] }
def X_stb2 : Exit → St → Option Lay
  | .exit 2, _ => some L_stb2_0
  | _, _ => none
abbrev C_stb2 : Code := loopC (bodyOf Try.f140) 2
theorem B_stb2 (l : List Int) (n s : Int) (q : List Req) : loopBodyA (P := P) [] (lpOf []) [] 63 (usd noU [1, 50]) (inner C_stb2) L_stb2 X_stb2 (α := List Int × Int × Unit × Int × List Req × Unit) (fun x => x) (fun x => x) (l, n, (), s, q, ()) =
  Tree.cond (decide (s < n)) (Tree.fail (204 : Nat)) (Tree.leaf (Sum.inr (Exit.exit (2 : Nat), Lay.st L_stb2_0 (usd noU [(1 : Nat), (50 : Nat)]) (l, q, PUnit.unit)))) := by kernel_rfl
def inv_stb2 : List Int × Int × Unit × Int × List Req × Unit → Prop := fun (l, n, _, s, q, _) => n ≤ s
def O_stb2 : List Int × Int × Unit × Int × List Req × Unit → Tree (Exit × St) := fun (l, n, _, s, q, _) => .leaf (.exit 2, L_stb2_0.st (usd noU [1, 50]) (l, q, ()))
def R_stb2 : LRun := runOf 63 L_stb2 (fun x => x) (inv_stb2) (O_stb2)
theorem K_stb2 : LoopOk P [] 63 none (usd noU [1, 50]) C_stb2 (R_stb2) := by
  refine loop_of hm (cx := []) [] (xl := X_stb2) (α := List Int × Int × Unit × Int × List Req × Unit) (fun x => x) (fun _ => 0) (fun _ => rfl) (by kernel_rfl) (by kernel_rfl) ?_ (by kernel_rfl) trivial ?_
  · intro e S L' h
    unfold X_stb2 at h
    split at h <;> first | (cases h; done) | (cases h; kernel_rfl) | (rcases bif_some h with h | h <;> cases h <;> kernel_rfl)
  · rintro ⟨l, n, ⟨⟩, s, q, ⟨⟩⟩ hinv Q hQ
    refine hold_of_eq (B_stb2 l n s q) ?_
    have h : n ≤ s := hinv
    exact ⟨fun c1 => absurd (of_decide_eq_true c1 : s < n) (by omega), fun _ => hQ⟩
def L_stb : Lay := { slots := [(0, .rowk 50 3 tI), (1, .val tI), (2, .clo 110 [(1, 0)])], boxes := [(1, [.val (.sl tReq)])] }
theorem T_stb (l : List Int) (n : Int) (q : List Req) : mTree (P := P) [c_cso.gc] (lpOf [(0, R_stb0), (2, R_stb2)]) Try.f140 L_stb true (l, n, (), q, ()) =
  Tree.need (inv_stb0 (l, n, (), (20 : Int), (0 : Int), (20 : Int), q, ())) (Tree.need ((0 : Int) ≤ (0 : Int) ∧ (0 : Int) ≤ n ∧ n ≤ (↑(List.length l) : Int) ∧ (↑(List.length l) : Int) < (2 : Int) ^ (62 : Nat) ∧ inQ q l) (Tree.need (inv_stb2 (isO (ltR q) (0 : Int) (Int.toNat (n - ((0 : Int) + (1 : Int)))) ((0 : Int) + (1 : Int)) l, n, (), (20 : Int), q, ())) (Tree.leaf { res := SV.tup [], boxes := [[SV.sl tReq q]], news := [Ob.row (3 : TypeId) tI (isO (ltR q) (0 : Int) (Int.toNat (n - ((0 : Int) + (1 : Int)))) ((0 : Int) + (1 : Int)) l)] ++ [] }))) := by kernel_rfl
def c_stb : MC P := MC.of (α := List Int × Int × Unit × List Req × Unit) 140 L_stb (fun x => x) (fun x => x) (fun _ => rfl)
  (fun (l, n, _, q, _) => some (n = l.length ∧ n ≤ 12 ∧ inQ q l))
  (fun (l, n, _, q, _) => ⟨.tup [], [[.sl tReq q]], [.row 3 tI (isO (ltR q) 0 ((l.length : Int) - 1).toNat 1 l)]⟩) (by kernel_rfl) (by kernel_rfl) (by kernel_rfl) (by
    rintro ⟨l, n, ⟨⟩, q, ⟨⟩⟩ hp
    refine m_of hm (own := true) (by kernel_rfl) (by kernel_rfl) (by kernel_rfl) (T_stb l n q) ⟨K_stb0, K_stb2, trivial⟩ ?_
    obtain ⟨rfl, h1, h2⟩ : n = l.length ∧ n ≤ 12 ∧ inQ q l := hp
    exact ⟨by show (l.length : Int) < 20; omega, ⟨by decide, by omega, by omega, by omega, h2⟩, by show (l.length : Int) ≤ 20; omega, rfl⟩)
def L_SortStable : Lay := { slots := [(0, .rowk 50 3 tI), (1, .clo 110 [(1, 0)])], boxes := [(1, [.val (.sl tReq)])] }
theorem T_SortStable (l : List Int) (q : List Req) : mTree (P := P) [c_stb.gc] (lpOf []) Try.f109 L_SortStable true (l, (), q, ()) =
  Tree.need ((↑(List.length l) : Int) = (↑(List.length l) : Int) ∧ (↑(List.length l) : Int) ≤ (12 : Int) ∧ inQ q l) (Tree.leaf { res := SV.tup [], boxes := [[SV.sl tReq q]], news := [Ob.row (3 : TypeId) tI (isO (ltR q) (0 : Int) (Int.toNat ((↑(List.length l) : Int) - (1 : Int))) (1 : Int) l)] ++ [] }) := by kernel_rfl
def c_SortStable : MC P := MC.of (α := List Int × Unit × List Req × Unit) 109 L_SortStable (fun x => x) (fun x => x) (fun _ => rfl)
  (fun (l, _, q, _) => some (l.length ≤ 12 ∧ inQ q l))
  (fun (l, _, q, _) => ⟨.tup [], [[.sl tReq q]], [.row 3 tI (isO (ltR q) 0 ((l.length : Int) - 1).toNat 1 l)]⟩) (by kernel_rfl) (by kernel_rfl) (by kernel_rfl) (by
    rintro ⟨l, ⟨⟩, q, ⟨⟩⟩ hp
    refine m_of hm (own := true) (by kernel_rfl) (by kernel_rfl) (by kernel_rfl) (T_SortStable l q) trivial ?_
    obtain ⟨h1, h2⟩ : l.length ≤ 12 ∧ inQ q l := hp
    exact ⟨⟨rfl, by omega, h2⟩, rfl⟩)
end
end Go.MR
