/- The law PathParts: its walk. -/
import Derived.Test.YtnlflnbbgklalaaMpV
namespace Go.MP
open Go Go.Sx Go.Proofs
set_option linter.unusedVariables false
set_option linter.unusedSimpArgs false
noncomputable section

/-! ### The reference's check of sources -/
def rord : Option Int → List Src → Bool
  | _, [] => false
  | c, s :: r => decide (s.1 < 1 ∨ s.1 > 99 ∨ ∃ p, c = some p ∧ s.1 ≤ p) || rord (some s.1) r
def rprev (l : List Src) (i : Int) : Option Int := if 0 < i then some (l.getD (i - 1).toNat (0, [])).1 else none
theorem rord_eq : ∀ {l : List Src} {p : Int}, 0 ≤ p → rord (some p) l = orderBad p l
  | [], p, _ => rfl
  | s :: r, p, h => by
    rw [rord, orderBad]
    by_cases h1 : s.1 ≤ p ∨ s.1 > 99
    · rw [decide_eq_true h1, decide_eq_true (by rcases h1 with h1 | h1; exact .inr (.inr ⟨p, rfl, h1⟩); exact .inr (.inl h1)), Bool.true_or, Bool.true_or]
    · rw [decide_eq_false h1, decide_eq_false (by rintro (h2 | h2 | ⟨p', e, h2⟩); omega; omega; cases e; omega), rord_eq (by omega)]
theorem rord_none {l : List Src} : rord none l = orderBad 0 l := by
  cases l with
  | nil => rfl
  | cons s r =>
    rw [rord, orderBad]
    by_cases h1 : s.1 ≤ 0 ∨ s.1 > 99
    · rw [decide_eq_true h1, decide_eq_true (by omega), Bool.true_or, Bool.true_or]
    · rw [decide_eq_false h1, decide_eq_false (by rintro (h2 | h2 | ⟨p', e, h2⟩); omega; omega; cases e), rord_eq (by omega)]
def L_rcsO : Lay := { slots := [(1, .val tSrcs), (2, .ptr 3091 0), (6, .val tI)], boxes := [(3091, [.val tI, .val tI, .val tI, .val tVs])] }
def L_rcsO_0 : Lay := { slots := [(1, .val tSrcs), (2, .ptr 3091 0)], boxes := [(3091, [.val tI, .val tI, .val tI, .val tVs])] }
def L_rcsO_1 : Lay := { slots := [(4, .val tI)] }
def X_rcsO : Exit → Option Lay
  | .exit 0 => some L_rcsO_0
  | .ret => some L_rcsO_1
  | _ => none
abbrev C_rcsO : Code := loopC (bodyOf Try.f145) 0
theorem B_rcsO (l : List Src) (i x y z : Int) (q : List V) : loopBodyA (P := P) [] (lpOf []) [] 91 noU (inner C_rcsO) L_rcsO X_rcsO (α := List Src × Unit × Int × Int × Int × Int × List V × Unit) (fun x => x) (fun x => x) (l, (), i, x, y, z, q, ()) =
  Tree.cond (decide (i < (↑(List.length l) : Int))) (Tree.need ((0 : Int) ≤ i ∧ i < (↑(List.length l) : Int)) (Tree.cond (decide ((List.getD l (Int.toNat i) ((0 : Int), [])).fst < (1 : Int))) (Tree.leaf (Sum.inr (Exit.ret, Lay.st L_rcsO_1 noU ((11 : Int), PUnit.unit)))) (Tree.need ((0 : Int) ≤ i ∧ i < (↑(List.length l) : Int)) (Tree.cond (decide ((List.getD l (Int.toNat i) ((0 : Int), [])).fst > (99 : Int))) (Tree.leaf (Sum.inr (Exit.ret, Lay.st L_rcsO_1 noU ((11 : Int), PUnit.unit)))) (Tree.cond (decide (i > (0 : Int))) (Tree.need ((0 : Int) ≤ i ∧ i < (↑(List.length l) : Int)) (Tree.need ((0 : Int) ≤ IntKind.wrap IntKind.i64 (i - (1 : Int)) ∧ IntKind.wrap IntKind.i64 (i - (1 : Int)) < (↑(List.length l) : Int)) (Tree.cond (decide ((List.getD l (Int.toNat i) ((0 : Int), [])).fst ≤ (List.getD l (Int.toNat (IntKind.wrap IntKind.i64 (i - (1 : Int)))) ((0 : Int), [])).fst)) (Tree.leaf (Sum.inr (Exit.ret, Lay.st L_rcsO_1 noU ((11 : Int), PUnit.unit)))) (Tree.leaf (Sum.inl (l, PUnit.unit, IntKind.wrap IntKind.i64 (i + (1 : Int)), x, y, z, q, PUnit.unit)))))) (Tree.leaf (Sum.inl (l, PUnit.unit, IntKind.wrap IntKind.i64 (i + (1 : Int)), x, y, z, q, PUnit.unit)))))))) (Tree.leaf (Sum.inr (Exit.exit (0 : Nat), Lay.st L_rcsO_0 noU (l, PUnit.unit, x, y, z, q, PUnit.unit)))) := by kernel_rfl

def inv_rcsO : List Src × Unit × Int × Int × Int × Int × List V × Unit → Prop := fun (l, _, i, x, y, z, q, _) => 0 ≤ i ∧ i ≤ l.length ∧ l.length ≤ 4
def O_rcsO : List Src × Unit × Int × Int × Int × Int × List V × Unit → Tree (Exit × St) := fun (l, _, i, x, y, z, q, _) => .cond (rord (rprev l i) (l.drop i.toNat)) (.leaf (.ret, L_rcsO_1.st noU (((11 : Int)), ()))) (.leaf (.exit 0, L_rcsO_0.st noU (l, (), x, y, z, q, ())))
def R_rcsO : LRun := runOf 91 L_rcsO (fun x => x) (inv_rcsO) (O_rcsO)
theorem K_rcsO : LoopOk P [] 91 none noU C_rcsO (R_rcsO) := by
  refine loop_of hm (cx := []) [] (xl := X_rcsO) (α := List Src × Unit × Int × Int × Int × Int × List V × Unit) (fun x => x) (fun (l, _, i, _) => (l.length - i).toNat) (fun _ => rfl) (by kernel_rfl) (by kernel_rfl) ?_ (by kernel_rfl) trivial ?_
  · intro e L' h
    unfold X_rcsO at h
    split at h <;> cases h <;> kernel_rfl
  · rintro ⟨l, ⟨⟩, i, x, y, z, q, ⟨⟩⟩ hinv Q hQ
    refine hold_of_eq (B_rcsO l i x y z q) ?_

    obtain ⟨h0, h1, h2⟩ := hinv
    rw [W_id (n := i + 1) (by omega) (by omega), W_id (n := i - 1) (by omega) (by omega)]
    unfold O_rcsO at hQ
    dsimp only at hQ
    refine ⟨fun hi => ?_, fun hi => ?_⟩
    · simp only [decide_eq_true_eq] at hi
      have hm : ((l.length : Int) - (i + 1)).toNat < ((l.length : Int) - i).toNat := by omega
      rw [drop_step ((0 : Int), []) h0 hi, rord] at hQ
      have hn : rprev l (i + 1) = some (l.getD i.toNat ((0 : Int), [])).1 := by
        unfold rprev
        rw [if_pos (by omega), show i + 1 - 1 = i by omega]
      rw [← hn] at hQ
      refine ⟨⟨h0, hi⟩, fun ha => ?_, fun ha => ⟨⟨h0, hi⟩, fun hb => ?_, fun hb => ⟨fun hc => ⟨⟨h0, hi⟩, ⟨by simp only [gt_iff_lt, decide_eq_true_eq] at hc; omega, by omega⟩, fun hd => ?_, fun hd => ?_⟩, fun hc => ?_⟩⟩⟩
      all_goals simp only [gt_iff_lt, decide_eq_true_eq, decide_eq_false_iff_not] at *
      · rw [decide_eq_true (Or.inl ha), Bool.true_or] at hQ
        exact hQ.1 rfl
      · rw [decide_eq_true (Or.inr (Or.inl hb)), Bool.true_or] at hQ
        exact hQ.1 rfl
      · have hp : rprev l i = some (l.getD (i - 1).toNat ((0 : Int), [])).1 := if_pos hc
        rw [decide_eq_true (Or.inr (Or.inr ⟨_, hp, hd⟩)), Bool.true_or] at hQ
        exact hQ.1 rfl
      · have hp : rprev l i = some (l.getD (i - 1).toNat ((0 : Int), [])).1 := if_pos hc
        rw [decide_eq_false (by rw [hp]; rintro (h | h | ⟨p, e, h⟩); exact ha h; exact hb h; cases e; exact hd h), Bool.false_or] at hQ
        exact ⟨⟨⟨by omega, by omega, h2⟩, hm⟩, hQ⟩
      · have hp : rprev l i = none := if_neg hc
        rw [decide_eq_false (by rw [hp]; rintro (h | h | ⟨p, e, h⟩); exact ha h; exact hb h; cases e), Bool.false_or] at hQ
        exact ⟨⟨⟨by omega, by omega, h2⟩, hm⟩, hQ⟩
    · simp only [decide_eq_false_iff_not] at hi
      rw [drop_end hi] at hQ
      exact hQ.2 rfl

/-- The first error of sources, one after the other. -/
def rerr (q : List V) : List Src → Int
  | [] => 0
  | s :: r => if s.2.length ≠ q.length then 3 else if s.2.any far200 = true then 2 else rerr q r
def L_rcsI : Lay := { slots := [(1, .val tSrcs), (2, .ptr 3091 0), (7, .val tI), (8, .val tI)], boxes := [(3091, [.val tI, .val tI, .val tI, .val tVs])] }
def L_rcsI_0 : Lay := { slots := [(1, .val tSrcs), (2, .ptr 3091 0), (7, .val tI)], boxes := [(3091, [.val tI, .val tI, .val tI, .val tVs])] }
def L_rcsI_1 : Lay := { slots := [(4, .val tI)] }
def X_rcsI : Exit → Option Lay
  | .exit 4 => some L_rcsI_0
  | .ret => some L_rcsI_1
  | _ => none
abbrev C_rcsI : Code := loopC (inner (loopC (bodyOf Try.f145) 2)) 4
theorem B_rcsI (l : List Src) (i j x y z : Int) (q : List V) : loopBodyA (P := P) [c_rwithin.gc] (lpOf []) [] 91 noU (inner C_rcsI) L_rcsI X_rcsI (α := List Src × Unit × Int × Int × Int × Int × Int × List V × Unit) (fun x => x) (fun x => x) (l, (), i, j, x, y, z, q, ()) =
  Tree.need ((0 : Int) ≤ i ∧ i < (↑(List.length l) : Int)) (Tree.cond (decide (j < (↑(List.length (List.getD l (Int.toNat i) ((0 : Int), [])).snd) : Int))) (Tree.need ((0 : Int) ≤ i ∧ i < (↑(List.length l) : Int)) (Tree.need ((0 : Int) ≤ j ∧ j < (↑(List.length (List.getD l (Int.toNat i) ((0 : Int), [])).snd) : Int)) (Tree.need ((0 : Int) ≤ (200 : Int) ∧ (200 : Int) < (2 : Int) ^ (62 : Nat)) (Tree.cond (!inB (List.getD (List.getD l (Int.toNat i) ((0 : Int), [])).snd (Int.toNat j) ((0 : Int), (0 : Int), (0 : Int))) (200 : Int)) (Tree.leaf (Sum.inr (Exit.ret, Lay.st L_rcsI_1 noU ((2 : Int), PUnit.unit)))) (Tree.leaf (Sum.inl (l, PUnit.unit, i, IntKind.wrap IntKind.i64 (j + (1 : Int)), x, y, z, q, PUnit.unit))))))) (Tree.leaf (Sum.inr (Exit.exit (4 : Nat), Lay.st L_rcsI_0 noU (l, PUnit.unit, i, x, y, z, q, PUnit.unit))))) := by kernel_rfl

def inv_rcsI : List Src × Unit × Int × Int × Int × Int × Int × List V × Unit → Prop := fun (l, _, i, j, x, y, z, q, _) => 0 ≤ i ∧ i < l.length ∧ 0 ≤ j ∧ j ≤ (l.getD i.toNat ((0 : Int), [])).2.length ∧ (l.getD i.toNat ((0 : Int), [])).2.length ≤ 100
def O_rcsI : List Src × Unit × Int × Int × Int × Int × Int × List V × Unit → Tree (Exit × St) := fun (l, _, i, j, x, y, z, q, _) => .cond (((l.getD i.toNat ((0 : Int), [])).2.drop j.toNat).any far200) (.leaf (.ret, L_rcsI_1.st noU (((2 : Int)), ()))) (.leaf (.exit 4, L_rcsI_0.st noU (l, (), i, x, y, z, q, ())))
def R_rcsI : LRun := runOf 91 L_rcsI (fun x => x) (inv_rcsI) (O_rcsI)
theorem K_rcsI : LoopOk P [] 91 none noU C_rcsI (R_rcsI) := by
  refine loop_of hm (cx := [c_rwithin.gc]) [] (xl := X_rcsI) (α := List Src × Unit × Int × Int × Int × Int × Int × List V × Unit) (fun x => x) (fun (l, _, i, j, _) => ((l.getD i.toNat ((0 : Int), [])).2.length - j).toNat) (fun _ => rfl) (by kernel_rfl) (by kernel_rfl) ?_ (by kernel_rfl) trivial ?_
  · intro e L' h
    unfold X_rcsI at h
    split at h <;> cases h <;> kernel_rfl
  · rintro ⟨l, ⟨⟩, i, j, x, y, z, q, ⟨⟩⟩ hinv Q hQ
    refine hold_of_eq (B_rcsI l i j x y z q) ?_

    obtain ⟨h0, h1, h2, h3, h4⟩ := hinv
    rw [W_id (n := j + 1) (by omega) (by omega)]
    unfold O_rcsI at hQ
    dsimp only at hQ
    refine ⟨⟨h0, h1⟩, fun hi => ⟨⟨h0, h1⟩, ?_, ⟨by decide, by decide⟩, fun hc => ?_, fun hc => ?_⟩, fun hi => ?_⟩
    all_goals simp only [decide_eq_true_eq, decide_eq_false_iff_not] at hi
    · exact ⟨h2, hi⟩
    · rw [drop_step (0, 0, 0) h2 hi, List.any_cons] at hQ
      have e : far200 ((l.getD i.toNat ((0 : Int), [])).2.getD j.toNat (0, 0, 0)) = true := hc
      rw [e, Bool.true_or] at hQ
      exact hQ.1 rfl
    · rw [drop_step (0, 0, 0) h2 hi, List.any_cons] at hQ
      have e : far200 ((l.getD i.toNat ((0 : Int), [])).2.getD j.toNat (0, 0, 0)) = false := hc
      rw [e, Bool.false_or] at hQ
      exact ⟨⟨⟨h0, h1, by omega, by omega, h4⟩, by show (((l.getD i.toNat ((0 : Int), [])).2.length : Int) - (j + 1)).toNat < (((l.getD i.toNat ((0 : Int), [])).2.length : Int) - j).toNat; omega⟩, hQ⟩
    · rw [drop_end hi] at hQ
      exact hQ.2 rfl

def L_rcsE : Lay := { slots := [(1, .val tSrcs), (2, .ptr 3091 0), (7, .val tI)], boxes := [(3091, [.val tI, .val tI, .val tI, .val tVs])] }
def L_rcsE_0 : Lay := { slots := [] }
def L_rcsE_1 : Lay := { slots := [(4, .val tI)] }
def X_rcsE : Exit → Option Lay
  | .exit 2 => some L_rcsE_0
  | .ret => some L_rcsE_1
  | _ => none
abbrev C_rcsE : Code := loopC (bodyOf Try.f145) 2
theorem B_rcsE (l : List Src) (i x y z : Int) (q : List V) : loopBodyA (P := P) [] (lpOf [(4, R_rcsI)]) [] 91 noU (inner C_rcsE) L_rcsE X_rcsE (α := List Src × Unit × Int × Int × Int × Int × List V × Unit) (fun x => x) (fun x => x) (l, (), i, x, y, z, q, ()) =
  Tree.cond (decide (i < (↑(List.length l) : Int))) (Tree.need ((0 : Int) ≤ i ∧ i < (↑(List.length l) : Int)) (Tree.cond ((↑(List.length (List.getD l (Int.toNat i) ((0 : Int), [])).snd) : Int) != (↑(List.length q) : Int)) (Tree.leaf (Sum.inr (Exit.ret, Lay.st L_rcsE_1 noU ((3 : Int), PUnit.unit)))) (Tree.need (inv_rcsI (l, (), i, (0 : Int), x, y, z, q, ())) (Tree.cond (List.any (List.drop (Int.toNat (0 : Int)) (List.getD l (Int.toNat i) ((0 : Int), [])).snd) far200) (Tree.leaf (Sum.inr (Exit.ret, Lay.st L_rcsE_1 noU ((2 : Int), PUnit.unit)))) (Tree.leaf (Sum.inl (l, PUnit.unit, IntKind.wrap IntKind.i64 (i + (1 : Int)), x, y, z, q, PUnit.unit))))))) (Tree.leaf (Sum.inr (Exit.exit (2 : Nat), Lay.st L_rcsE_0 noU PUnit.unit))) := by kernel_rfl

def inv_rcsE : List Src × Unit × Int × Int × Int × Int × List V × Unit → Prop := fun (l, _, i, x, y, z, q, _) => 0 ≤ i ∧ i ≤ l.length ∧ l.length ≤ 4 ∧ q.length ≤ 20
def O_rcsE : List Src × Unit × Int × Int × Int × Int × List V × Unit → Tree (Exit × St) := fun (l, _, i, x, y, z, q, _) => .cond (decide (rerr q (l.drop i.toNat) = 0)) (.leaf (.exit 2, L_rcsE_0.st noU ())) (.leaf (.ret, L_rcsE_1.st noU (rerr q (l.drop i.toNat), ())))
def R_rcsE : LRun := runOf 91 L_rcsE (fun x => x) (inv_rcsE) (O_rcsE)
theorem K_rcsE : LoopOk P [] 91 none noU C_rcsE (R_rcsE) := by
  refine loop_of hm (cx := []) [(4, R_rcsI)] (xl := X_rcsE) (α := List Src × Unit × Int × Int × Int × Int × List V × Unit) (fun x => x) (fun (l, _, i, _) => (l.length - i).toNat) (fun _ => rfl) (by kernel_rfl) (by kernel_rfl) ?_ (by kernel_rfl) ⟨K_rcsI, trivial⟩ ?_
  · intro e L' h
    unfold X_rcsE at h
    split at h <;> cases h <;> kernel_rfl
  · rintro ⟨l, ⟨⟩, i, x, y, z, q, ⟨⟩⟩ hinv Q hQ
    refine hold_of_eq (B_rcsE l i x y z q) ?_

    obtain ⟨h0, h1, h2, h3⟩ := hinv
    rw [W_id (n := i + 1) (by omega) (by omega)]
    unfold O_rcsE at hQ
    dsimp only at hQ
    refine ⟨fun hi => ?_, fun hi => ?_⟩
    · simp only [decide_eq_true_eq] at hi
      have hm : ((l.length : Int) - (i + 1)).toNat < ((l.length : Int) - i).toNat := by omega
      rw [drop_step ((0 : Int), []) h0 hi, rerr] at hQ
      refine ⟨⟨h0, hi⟩, fun ha => ?_, fun ha => ⟨?_, fun hb => ?_, fun hb => ?_⟩⟩
      · simp only [bne_iff_ne, ne_eq] at ha
        rw [if_pos (by omega)] at hQ
        exact hQ.2 rfl
      · simp only [bne_eq_false_iff_eq] at ha
        exact ⟨h0, hi, by omega, by omega, by omega⟩
      · simp only [bne_eq_false_iff_eq] at ha
        rw [Int.toNat_zero, List.drop_zero] at hb
        rw [if_neg (by omega), if_pos hb] at hQ
        exact hQ.2 rfl
      · simp only [bne_eq_false_iff_eq] at ha
        rw [Int.toNat_zero, List.drop_zero] at hb
        rw [if_neg (by omega), if_neg (by rw [hb]; simp)] at hQ
        exact ⟨⟨⟨by omega, by omega, h2, h3⟩, hm⟩, hQ⟩
    · simp only [decide_eq_false_iff_not] at hi
      rw [drop_end hi] at hQ
      exact hQ.1 rfl

def rcsS (p : Pth) (l : List Src) : Int := if checkS p ≠ 0 then checkS p else if l.length > 4 then 8 else if orderBad 0 l = true then 11 else rerr p.2 l
theorem T_rcs (x y z : Int) (q : List V) (l : List Src) : fnTree (P := P) [c_rCheck.gc] (lpOf [(0, R_rcsO), (2, R_rcsE)]) Try.f145 (encL 0 [.agg tPath, .val tSrcs] (((x, y, z), q), l, ())) =
  Tree.cond (checkS ((x, y, z), q) != (0 : Int)) (Tree.leaf (SV.int IntKind.i64 (checkS ((x, y, z), q)))) (Tree.cond (decide ((↑(List.length l) : Int) > (4 : Int))) (Tree.leaf (SV.int IntKind.i64 (8 : Int))) (Tree.need (inv_rcsO (l, (), (0 : Int), x, y, z, q, ())) (Tree.cond (rord (rprev l (0 : Int)) (List.drop (Int.toNat (0 : Int)) l)) (Tree.leaf (SV.int IntKind.i64 (11 : Int))) (Tree.need (inv_rcsE (l, (), (0 : Int), x, y, z, q, ())) (Tree.cond (decide (rerr q (List.drop (Int.toNat (0 : Int)) l) = (0 : Int))) (Tree.leaf (SV.int IntKind.i64 (0 : Int))) (Tree.leaf (SV.int IntKind.i64 (rerr q (List.drop (Int.toNat (0 : Int)) l))))))))) := by kernel_rfl

def c_rcs : PC P := PC.of (α := Pth × List Src × Unit) 145 [.agg tPath, .val tSrcs] (fun x => x) (fun x => x) (fun _ => rfl)
  (fun _ => none)
  (fun x => .int .i64 (rcsS x.1 x.2.1)) (by kernel_rfl) (by
    rintro ⟨⟨⟨x, y, z⟩, q⟩, l, ⟨⟩⟩ hp
    refine fn_of hm (by kernel_rfl) (by kernel_rfl) (T_rcs x y z q l) ⟨K_rcsO, K_rcsE, trivial⟩ ?_

    show Tree.holds (fun s => s = SV.int .i64 (rcsS ((x, y, z), q) l)) _
    unfold rcsS
    have e0 : rord (rprev l 0) (l.drop (Int.toNat 0)) = orderBad 0 l := by
      rw [Int.toNat_zero, List.drop_zero, show rprev l 0 = none from rfl, rord_none]
    rw [e0]
    simp only [Int.toNat_zero, List.drop_zero]
    refine ⟨fun h => ?_, fun h => ⟨fun h2 => ?_, fun h2 => ⟨⟨by omega, by omega, ?_⟩, fun h3 => ?_, fun h3 => ⟨⟨by omega, by omega, ?_, ?_⟩, fun h4 => ?_, fun h4 => ?_⟩⟩⟩⟩
    all_goals simp only [bne_iff_ne, ne_eq, bne_eq_false_iff_eq, gt_iff_lt, decide_eq_true_eq, decide_eq_false_iff_not] at *
    · rw [if_pos h]
      exact rfl
    · rw [if_neg (by simp [h]), if_pos (by omega)]
      exact rfl
    · omega
    · rw [if_neg (by simp [h]), if_neg (by omega), if_pos h3]
      exact rfl
    · omega
    · exact checkS_len h
    · rw [if_neg (by simp [h]), if_neg (by omega), if_neg (by rw [h3]; simp), h4]
      exact rfl
    · rw [if_neg (by simp [h]), if_neg (by omega), if_neg (by rw [h3]; simp)]
      exact rfl)

theorem rerr_zero {q : List V} : ∀ {l : List Src}, rerr q l = 0 ↔ l.any (pA q) = false ∧ l.any pB = false
  | [] => by simp [rerr]
  | s :: r => by
    have e1 : pA q s = true ↔ s.2.length ≠ q.length := by unfold pA; simp only [bne_iff_ne, ne_eq]; omega
    rw [rerr, List.any_cons, List.any_cons]
    by_cases h1 : s.2.length ≠ q.length
    · rw [if_pos h1, e1.2 h1]
      simp
    · rw [if_neg h1]
      have h1' : pA q s = false := by
        cases h : pA q s with
        | false => rfl
        | true => exact absurd (e1.1 h) h1
      rw [h1', Bool.false_or]
      by_cases h2 : s.2.any far200 = true
      · rw [if_pos h2]
        have : pB s = true := h2
        rw [this]
        simp
      · rw [if_neg h2]
        have : pB s = false := by simpa [pB] using h2
        rw [this, Bool.false_or]
        exact rerr_zero
theorem rcsS_zero {p : Pth} {l : List Src} : rcsS p l = 0 ↔ csS p l = 0 := by
  unfold rcsS csS errorsS
  by_cases h0 : checkS p = 0
  · rw [if_neg (by simp [h0]), if_pos h0]
    by_cases h1 : l.length > 4
    · rw [if_pos h1, if_pos h1]
    · rw [if_neg h1, if_neg h1]
      by_cases h2 : orderBad 0 l = true
      · rw [if_pos h2, if_pos h2]
      · rw [if_neg h2, if_neg h2, rerr_zero]
        cases h3 : l.any (pA p.2) with
        | true => simp
        | false =>
          cases h4 : l.any pB with
          | true => simp
          | false => simp
  · rw [if_pos h0, if_neg h0]

theorem T_rfine (x y z : Int) (q : List V) (l : List Src) (x' y' z' : Int) (q' : List V) (l' : List Src) (r : Int) : fnTree (P := P) [c_rcs.gc] (lpOf []) Try.f119 (encL 0 [.agg tPath, .val tSrcs, .agg tPath, .val tSrcs, .val tI] (((x, y, z), q), l, ((x', y', z'), q'), l', r, ())) =
  Tree.cond (rcsS ((x, y, z), q) l == (0 : Int)) (Tree.cond (rcsS ((x', y', z'), q') l' == (0 : Int)) (Tree.cond (decide (r ≥ (1 : Int))) (Tree.leaf (SV.bool (decide (r ≤ (4000 : Int))))) (Tree.leaf (SV.bool false))) (Tree.leaf (SV.bool false))) (Tree.leaf (SV.bool false)) := by kernel_rfl

def c_rfine : PC P := PC.of (α := Pth × List Src × Pth × List Src × Int × Unit) 119 [.agg tPath, .val tSrcs, .agg tPath, .val tSrcs, .val tI] (fun x => x) (fun x => x) (fun _ => rfl)
  (fun _ => none)
  (fun x => .bool (fairS x.1 x.2.1 x.2.2.1 x.2.2.2.1 x.2.2.2.2.1)) (by kernel_rfl) (by
    rintro ⟨⟨⟨x, y, z⟩, q⟩, l, ⟨⟨x', y', z'⟩, q'⟩, l', r, ⟨⟩⟩ hp
    refine fn_of hm (by kernel_rfl) (by kernel_rfl) (T_rfine x y z q l x' y' z' q' l' r) trivial ?_

    show Tree.holds (fun s => s = SV.bool (fairS ((x, y, z), q) l ((x', y', z'), q') l' r)) _
    unfold fairS
    refine ⟨fun h1 => ⟨fun h2 => ⟨fun h3 => ?_, fun h3 => ?_⟩, fun h2 => ?_⟩, fun h1 => ?_⟩
    all_goals simp only [beq_iff_eq, beq_eq_false_iff_ne, ne_eq, decide_eq_true_eq, decide_eq_false_iff_not] at *
    all_goals rw [rcsS_zero] at h1
    · rw [rcsS_zero] at h2
      exact congrArg SV.bool (decide_eq_decide.2 ⟨fun h4 => ⟨h1, h2, h3, h4⟩, fun h4 => h4.2.2.2⟩)
    · exact congrArg SV.bool (decide_eq_false fun h4 => h3 h4.2.2.1).symm
    · rw [rcsS_zero] at h2
      exact congrArg SV.bool (decide_eq_false fun h4 => h2 h4.2.1).symm
    · exact congrArg SV.bool (decide_eq_false fun h4 => h1 h4.1).symm)

theorem okOf_at {p : Pth} {l : List Src} (h : csS p l = 0) {i : Int} (h0 : 0 ≤ i) (h1 : i ≤ p.2.length) : p.2.length ≤ 20 ∧ okOf l i false := by
  obtain ⟨a, b, c⟩ := csS_zero h
  have := checkS_len a
  exact ⟨this, by omega, h0, fun s hs => ⟨by rw [c s hs]; exact h1, fun e => Bool.noConfusion e, by rw [c s hs]; omega⟩⟩
theorem okOf_mid {p : Pth} {l : List Src} (h : csS p l = 0) {i : Int} (h0 : 0 ≤ i) (h1 : i < p.2.length) : p.2.length ≤ 20 ∧ okOf l i true := by
  obtain ⟨a, b, c⟩ := csS_zero h
  have := checkS_len a
  exact ⟨this, by omega, h0, fun s hs => ⟨by rw [c s hs]; omega, fun e => by rw [c s hs]; exact h1, by rw [c s hs]; omega⟩⟩
def rtouchesS (p : Pth) (l : List Src) (i : Int) (p' : Pth) (l' : List Src) (j r : Int) : Bool :=
  decide (fairS p l p' l' r = true ∧ 0 ≤ i ∧ i ≤ p.2.length ∧ 0 ≤ j ∧ j ≤ p'.2.length) && rtouchW p l i p' l' j r
theorem T_rTouches (x y z : Int) (q : List V) (l : List Src) (i : Int) (x' y' z' : Int) (q' : List V) (l' : List Src) (j r : Int) : fnTree (P := P) [c_rfine.gc, c_rtouches.gc] (lpOf []) Try.f65 (encL 0 [.agg tPath, .val tSrcs, .val tI, .agg tPath, .val tSrcs, .val tI, .val tI] (((x, y, z), q), l, i, ((x', y', z'), q'), l', j, r, ())) =
  Tree.cond (fairS ((x, y, z), q) l ((x', y', z'), q') l' r) (Tree.cond (decide (i ≥ (0 : Int))) (Tree.cond (decide (i ≤ (↑(List.length q) : Int))) (Tree.cond (decide (j ≥ (0 : Int))) (Tree.cond (decide (j ≤ (↑(List.length q') : Int))) (Tree.need (List.length q ≤ (20 : Nat) ∧ List.length q' ≤ (20 : Nat) ∧ (0 : Int) ≤ i ∧ i ≤ (↑(List.length q) : Int) ∧ (0 : Int) ≤ j ∧ j ≤ (↑(List.length q') : Int) ∧ okOf l i false ∧ okOf l' j false) (Tree.leaf (SV.bool (rtouchW ((x, y, z), q) l i ((x', y', z'), q') l' j r)))) (Tree.leaf (SV.bool false))) (Tree.leaf (SV.bool false))) (Tree.leaf (SV.bool false))) (Tree.leaf (SV.bool false))) (Tree.leaf (SV.bool false)) := by kernel_rfl

def c_rTouches : PC P := PC.of (α := Pth × List Src × Int × Pth × List Src × Int × Int × Unit) 65 [.agg tPath, .val tSrcs, .val tI, .agg tPath, .val tSrcs, .val tI, .val tI] (fun x => x) (fun x => x) (fun _ => rfl)
  (fun _ => none)
  (fun (p, l, i, p', l', j, r, _) => .bool (rtouchesS p l i p' l' j r)) (by kernel_rfl) (by
    rintro ⟨⟨⟨x, y, z⟩, q⟩, l, i, ⟨⟨x', y', z'⟩, q'⟩, l', j, r, ⟨⟩⟩ hp
    refine fn_of hm (by kernel_rfl) (by kernel_rfl) (T_rTouches x y z q l i x' y' z' q' l' j r) trivial ?_

    show Tree.holds (fun s => s = SV.bool (rtouchesS ((x, y, z), q) l i ((x', y', z'), q') l' j r)) _
    unfold rtouchesS
    refine ⟨fun h1 => ⟨fun h2 => ⟨fun h3 => ⟨fun h4 => ⟨fun h5 => ⟨?_, ?_⟩, fun h5 => ?_⟩, fun h4 => ?_⟩, fun h3 => ?_⟩, fun h2 => ?_⟩, fun h1 => ?_⟩
    all_goals simp only [ge_iff_le, decide_eq_true_eq, decide_eq_false_iff_not] at *
    · obtain ⟨f1, f2, _⟩ := fairS_iff.1 h1
      have w1 := okOf_at f1 h2 h3
      have w2 := okOf_at f2 h4 h5
      exact ⟨w1.1, w2.1, h2, h3, h4, h5, w1.2, w2.2⟩
    · rw [decide_eq_true ⟨h1, h2, h3, h4, h5⟩, Bool.true_and]
      exact rfl
    · rw [decide_eq_false (fun h6 => h5 h6.2.2.2.2), Bool.false_and]
      exact rfl
    · rw [decide_eq_false (fun h6 => h4 h6.2.2.2.1), Bool.false_and]
      exact rfl
    · rw [decide_eq_false (fun h6 => h3 h6.2.2.1), Bool.false_and]
      exact rfl
    · rw [decide_eq_false (fun h6 => h2 h6.2.1), Bool.false_and]
      exact rfl
    · rw [decide_eq_false (fun h6 => Bool.noConfusion (h1.symm.trans h6.1)), Bool.false_and]
      exact rfl)

def rseparatesS (p : Pth) (l : List Src) (i : Int) (p' : Pth) (l' : List Src) (j r : Int) : Bool :=
  decide (fairS p l p' l' r = true ∧ 0 ≤ i ∧ i < p.2.length ∧ 0 ≤ j ∧ j < p'.2.length) && rsepW p l i p' l' j r
theorem T_rSeparate (x y z : Int) (q : List V) (l : List Src) (i : Int) (x' y' z' : Int) (q' : List V) (l' : List Src) (j r : Int) : fnTree (P := P) [c_rfine.gc, c_rseparate.gc] (lpOf []) Try.f67 (encL 0 [.agg tPath, .val tSrcs, .val tI, .agg tPath, .val tSrcs, .val tI, .val tI] (((x, y, z), q), l, i, ((x', y', z'), q'), l', j, r, ())) =
  Tree.cond (fairS ((x, y, z), q) l ((x', y', z'), q') l' r) (Tree.cond (decide (i ≥ (0 : Int))) (Tree.cond (decide (i < (↑(List.length q) : Int))) (Tree.cond (decide (j ≥ (0 : Int))) (Tree.cond (decide (j < (↑(List.length q') : Int))) (Tree.need (List.length q ≤ (20 : Nat) ∧ List.length q' ≤ (20 : Nat) ∧ (0 : Int) ≤ i ∧ i < (↑(List.length q) : Int) ∧ (0 : Int) ≤ j ∧ j < (↑(List.length q') : Int) ∧ okOf l i true ∧ okOf l' j true) (Tree.leaf (SV.bool (rsepW ((x, y, z), q) l i ((x', y', z'), q') l' j r)))) (Tree.leaf (SV.bool false))) (Tree.leaf (SV.bool false))) (Tree.leaf (SV.bool false))) (Tree.leaf (SV.bool false))) (Tree.leaf (SV.bool false)) := by kernel_rfl

def c_rSeparate : PC P := PC.of (α := Pth × List Src × Int × Pth × List Src × Int × Int × Unit) 67 [.agg tPath, .val tSrcs, .val tI, .agg tPath, .val tSrcs, .val tI, .val tI] (fun x => x) (fun x => x) (fun _ => rfl)
  (fun _ => none)
  (fun (p, l, i, p', l', j, r, _) => .bool (rseparatesS p l i p' l' j r)) (by kernel_rfl) (by
    rintro ⟨⟨⟨x, y, z⟩, q⟩, l, i, ⟨⟨x', y', z'⟩, q'⟩, l', j, r, ⟨⟩⟩ hp
    refine fn_of hm (by kernel_rfl) (by kernel_rfl) (T_rSeparate x y z q l i x' y' z' q' l' j r) trivial ?_

    show Tree.holds (fun s => s = SV.bool (rseparatesS ((x, y, z), q) l i ((x', y', z'), q') l' j r)) _
    unfold rseparatesS
    refine ⟨fun h1 => ⟨fun h2 => ⟨fun h3 => ⟨fun h4 => ⟨fun h5 => ⟨?_, ?_⟩, fun h5 => ?_⟩, fun h4 => ?_⟩, fun h3 => ?_⟩, fun h2 => ?_⟩, fun h1 => ?_⟩
    all_goals simp only [ge_iff_le, decide_eq_true_eq, decide_eq_false_iff_not] at *
    · obtain ⟨f1, f2, _⟩ := fairS_iff.1 h1
      have w1 := okOf_mid f1 h2 h3
      have w2 := okOf_mid f2 h4 h5
      exact ⟨w1.1, w2.1, h2, h3, h4, h5, w1.2, w2.2⟩
    · rw [decide_eq_true ⟨h1, h2, h3, h4, h5⟩, Bool.true_and]
      exact rfl
    · rw [decide_eq_false (fun h6 => h5 h6.2.2.2.2), Bool.false_and]
      exact rfl
    · rw [decide_eq_false (fun h6 => h4 h6.2.2.2.1), Bool.false_and]
      exact rfl
    · rw [decide_eq_false (fun h6 => h3 h6.2.2.1), Bool.false_and]
      exact rfl
    · rw [decide_eq_false (fun h6 => h2 h6.2.1), Bool.false_and]
      exact rfl
    · rw [decide_eq_false (fun h6 => Bool.noConfusion (h1.symm.trans h6.1)), Bool.false_and]
      exact rfl)

/-! ### How great wells are -/
def bigSrc (s : Src) : Bool := decide (s.2.length > 24)
def L_BigSources : Lay := { slots := [(0, .val tSrcs), (3, .val tI)] }
def L_BigSources_0 : Lay := { slots := [] }
def L_BigSources_1 : Lay := { slots := [(2, .val .bool)] }
def X_BigSources : Exit → Option Lay
  | .exit 0 => some L_BigSources_0
  | .ret => some L_BigSources_1
  | _ => none
abbrev C_BigSources : Code := loopC (bodyOf Try.f115) 0
theorem B_BigSources (l : List Src) (i : Int) : loopBodyA (P := P) [] (lpOf []) [] 20 noU (inner C_BigSources) L_BigSources X_BigSources (α := List Src × Int × Unit) (fun x => x) (fun x => x) (l, i, ()) =
  Tree.cond (decide (i < (↑(List.length l) : Int))) (Tree.need ((0 : Int) ≤ i ∧ i < (↑(List.length l) : Int)) (Tree.cond (decide ((↑(List.length (List.getD l (Int.toNat i) ((0 : Int), [])).snd) : Int) > (24 : Int))) (Tree.leaf (Sum.inr (Exit.ret, Lay.st L_BigSources_1 noU (true, PUnit.unit)))) (Tree.leaf (Sum.inl (l, IntKind.wrap IntKind.i64 (i + (1 : Int)), PUnit.unit))))) (Tree.leaf (Sum.inr (Exit.exit (0 : Nat), Lay.st L_BigSources_0 noU PUnit.unit))) := by kernel_rfl

def inv_BigSources : List Src × Int × Unit → Prop := fun (l, i, _) => 0 ≤ i ∧ i ≤ l.length ∧ l.length ≤ 6
def O_BigSources : List Src × Int × Unit → Tree (Exit × St) := fun (l, i, _) => .cond ((l.drop i.toNat).any bigSrc) (.leaf (.ret, L_BigSources_1.st noU (true, ()))) (.leaf (.exit 0, L_BigSources_0.st noU ()))
def R_BigSources : LRun := runOf 20 L_BigSources (fun x => x) (inv_BigSources) (O_BigSources)
theorem K_BigSources : LoopOk P [] 20 none noU C_BigSources (R_BigSources) := by
  refine loop_of hm (cx := []) [] (xl := X_BigSources) (α := List Src × Int × Unit) (fun x => x) (fun (l, i, _) => (l.length - i).toNat) (fun _ => rfl) (by kernel_rfl) (by kernel_rfl) ?_ (by kernel_rfl) trivial ?_
  · intro e L' h
    unfold X_BigSources at h
    split at h <;> cases h <;> kernel_rfl
  · rintro ⟨l, i, ⟨⟩⟩ hinv Q hQ
    refine hold_of_eq (B_BigSources l i) ?_

    obtain ⟨h0, h1, h2⟩ := hinv
    rw [W_id (n := i + 1) (by omega) (by omega)]
    unfold O_BigSources at hQ
    dsimp only at hQ
    refine ⟨fun hi => ?_, fun hi => ?_⟩
    · simp only [decide_eq_true_eq] at hi
      have hm : ((l.length : Int) - (i + 1)).toNat < ((l.length : Int) - i).toNat := by omega
      rw [drop_step ((0 : Int), []) h0 hi, List.any_cons] at hQ
      refine ⟨⟨h0, hi⟩, fun hc => ?_, fun hc => ?_⟩
      · have e : bigSrc (l.getD i.toNat ((0 : Int), [])) = true := by
          unfold bigSrc
          simp only [gt_iff_lt, decide_eq_true_eq] at hc ⊢
          omega
        rw [e, Bool.true_or] at hQ
        exact hQ.1 rfl
      · have e : bigSrc (l.getD i.toNat ((0 : Int), [])) = false := by
          unfold bigSrc
          simp only [gt_iff_lt, decide_eq_false_iff_not] at hc ⊢
          omega
        rw [e, Bool.false_or] at hQ
        exact ⟨⟨⟨by omega, by omega, h2⟩, hm⟩, hQ⟩
    · simp only [decide_eq_false_iff_not] at hi
      rw [drop_end hi] at hQ
      exact hQ.2 rfl

theorem T_BigSources (l : List Src) : fnTree (P := P) [] (lpOf [(0, R_BigSources)]) Try.f115 (encL 0 [.val tSrcs] (l, ())) =
  Tree.cond (decide ((↑(List.length l) : Int) > (6 : Int))) (Tree.leaf (SV.bool true)) (Tree.need (inv_BigSources (l, (0 : Int), ())) (Tree.cond (List.any (List.drop (Int.toNat (0 : Int)) l) bigSrc) (Tree.leaf (SV.bool true)) (Tree.leaf (SV.bool false)))) := by kernel_rfl

def c_BigSources : PC P := PC.of (α := List Src × Unit) 115 [.val tSrcs] (fun x => x) (fun x => x) (fun _ => rfl)
  (fun _ => none)
  (fun x => .bool (decide (x.1.length > 6) || x.1.any bigSrc)) (by kernel_rfl) (by
    rintro ⟨l, ⟨⟩⟩ hp
    refine fn_of hm (by kernel_rfl) (by kernel_rfl) (T_BigSources l) ⟨K_BigSources, trivial⟩ ?_

    show Tree.holds (fun s => s = SV.bool (decide (l.length > 6) || l.any bigSrc)) _
    rw [Int.toNat_zero, List.drop_zero]
    refine ⟨fun h => ?_, fun h => ⟨⟨by omega, by omega, ?_⟩, fun h2 => ?_, fun h2 => ?_⟩⟩
    all_goals simp only [gt_iff_lt, decide_eq_true_eq, decide_eq_false_iff_not] at h
    · rw [decide_eq_true (by omega), Bool.true_or]
      exact rfl
    · omega
    · rw [h2, Bool.or_true]
      exact rfl
    · rw [h2, decide_eq_false (by omega)]
      exact rfl)

theorem T_big (x y z : Int) (q : List V) (l : List Src) : fnTree (P := P) [c_BigPath.gc, c_BigSources.gc] (lpOf []) Try.f63 (encL 0 [.agg (.pair tPath tSrcs)] ((((x, y, z), q), l), ())) =
  Tree.cond (decide ((↑(List.length q) : Int) > (24 : Int))) (Tree.leaf (SV.bool true)) (Tree.leaf (SV.bool (decide (List.length l > (6 : Nat)) || List.any l bigSrc))) := by kernel_rfl

def c_big : PC P := PC.of (α := (Pth × List Src) × Unit) 63 [.agg (.pair tPath tSrcs)] (fun x => x) (fun x => x) (fun _ => rfl)
  (fun _ => none)
  (fun x => .bool (decide (x.1.1.2.length > 24) || (decide (x.1.2.length > 6) || x.1.2.any bigSrc))) (by kernel_rfl) (by
    rintro ⟨⟨⟨⟨x, y, z⟩, q⟩, l⟩, ⟨⟩⟩ hp
    refine fn_of hm (by kernel_rfl) (by kernel_rfl) (T_big x y z q l) trivial ?_

    show Tree.holds (fun s => s = SV.bool (decide (q.length > 24) || (decide (l.length > 6) || l.any bigSrc))) _
    refine ⟨fun h => ?_, fun h => ?_⟩
    all_goals simp only [gt_iff_lt, decide_eq_true_eq, decide_eq_false_iff_not] at h
    · rw [decide_eq_true (by omega), Bool.true_or]
      exact rfl
    · rw [decide_eq_false (by omega), Bool.false_or]
      exact rfl)

theorem touches_same (p : Pth) (l : List Src) (i : Int) (p' : Pth) (l' : List Src) (j r : Int) : touchesS p l i p' l' j r = rtouchesS p l i p' l' j r := by
  unfold touchesS rtouchesS
  by_cases h : fairS p l p' l' r = true ∧ 0 ≤ i ∧ i ≤ p.2.length ∧ 0 ≤ j ∧ j ≤ p'.2.length
  · obtain ⟨f1, f2, _⟩ := fairS_iff.1 h.1
    rw [touch_same f1 f2]
  · rw [decide_eq_false h, Bool.false_and, Bool.false_and]
theorem separates_same (p : Pth) (l : List Src) (i : Int) (p' : Pth) (l' : List Src) (j r : Int) : separatesS p l i p' l' j r = rseparatesS p l i p' l' j r := by
  unfold separatesS rseparatesS
  by_cases h : fairS p l p' l' r = true ∧ 0 ≤ i ∧ i < p.2.length ∧ 0 ≤ j ∧ j < p'.2.length
  · obtain ⟨f1, f2, _⟩ := fairS_iff.1 h.1
    rw [sep_same f1 f2 h.2.1 h.2.2.1 h.2.2.2.1 h.2.2.2.2]
  · rw [decide_eq_false h, Bool.false_and, Bool.false_and]
theorem T_PathParts (x y z : Int) (q : List V) (l : List Src) (x' y' z' : Int) (q' : List V) (l' : List Src) (i j r : Int) : fnTree (P := P) [c_awake.gc, c_big.gc, c_Touches.gc, c_rTouches.gc, c_Separate.gc, c_rSeparate.gc] (lpOf []) Try.f12 (encL 0 [.agg (.pair tPath tSrcs), .agg (.pair tPath tSrcs), .val tI, .val tI, .val tI] ((((x, y, z), q), l), (((x', y', z'), q'), l'), i, j, r, ())) =
  Tree.cond (decide (List.length q > (24 : Nat)) || (decide (List.length l > (6 : Nat)) || List.any l bigSrc)) (Tree.leaf (SV.bool true)) (Tree.cond (decide (List.length q' > (24 : Nat)) || (decide (List.length l' > (6 : Nat)) || List.any l' bigSrc)) (Tree.leaf (SV.bool true)) (Tree.cond (touchesS ((x, y, z), q) l i ((x', y', z'), q') l' j r == rtouchesS ((x, y, z), q) l i ((x', y', z'), q') l' j r) (Tree.cond (separatesS ((x, y, z), q) l i ((x', y', z'), q') l' j r == rseparatesS ((x, y, z), q) l i ((x', y', z'), q') l' j r) (Tree.leaf (SV.bool true)) (Tree.leaf (SV.bool false))) (Tree.leaf (SV.bool false)))) := by kernel_rfl

def c_PathParts : PC P := PC.of (α := (Pth × List Src) × (Pth × List Src) × Int × Int × Int × Unit) 12 [.agg (.pair tPath tSrcs), .agg (.pair tPath tSrcs), .val tI, .val tI, .val tI] (fun x => x) (fun x => x) (fun _ => rfl)
  (fun _ => none)
  (fun _ => .bool true) (by kernel_rfl) (by
    rintro ⟨⟨⟨⟨x, y, z⟩, q⟩, l⟩, ⟨⟨⟨x', y', z'⟩, q'⟩, l'⟩, i, j, r, ⟨⟩⟩ hp
    refine fn_of hm (by kernel_rfl) (by kernel_rfl) (T_PathParts x y z q l x' y' z' q' l' i j r) trivial ?_

    rw [touches_same, separates_same]
    refine ⟨fun _ => rfl, fun _ => ⟨fun _ => rfl, fun _ => ⟨fun _ => ⟨fun _ => rfl, fun h => ?_⟩, fun h => ?_⟩⟩⟩
    · simp at h
    · simp at h)

end
end Go.MP
