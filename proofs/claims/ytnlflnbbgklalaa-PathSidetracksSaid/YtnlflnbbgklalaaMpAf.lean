/- The law PathPlans, step by step. -/
import Derived.Test.YtnlflnbbgklalaaMpAe
import Derived.Test.YtnlflnbbgklalaaMpAd
namespace Go.MP
open Go Go.Sx Go.Proofs
set_option linter.unusedVariables false
set_option linter.unusedSimpArgs false
noncomputable section

theorem kR_len {rec : List V → V → V → Int → Int → Best → Best} {now : List V} {at' D : V} {i len n : Int} (hrec : ∀ (v a c : V) (d e : Int) (b : Best), b.1.length ≤ 3 → (rec (now ++ [v]) a c d e b).1.length ≤ 3) :
    ∀ (j : Nat) (k : Int) (b : Best), b.1.length ≤ 3 → (kR rec now at' D i len n j k b).1.length ≤ 3
  | 0, k, b, h => h
  | j + 1, k, b, h => by
    rw [kR]
    refine kR_len hrec j (k + 1) _ ?_
    split
    · exact hrec _ _ _ _ _ _ h
    · exact h
theorem dR_len {rec : List V → V → V → Int → Int → Best → Best} {g : Goal} {now : List V} {at' before : V} {dir len : Int} (hrec : ∀ (v a c : V) (d e : Int) (b : Best), b.1.length ≤ 3 → (rec (now ++ [v]) a c d e b).1.length ≤ 3) :
    ∀ (l : List V) (i : Int) (b : Best), b.1.length ≤ 3 → (dR rec g now at' before dir len l i b).1.length ≤ 3
  | [], i, b, h => h
  | D :: r, i, b, h => by
    rw [dR]
    refine dR_len hrec r (i + 1) _ ?_
    split
    · exact h
    · exact kR_len hrec _ _ _ h
theorem hereS_len {g : Goal} {now : List V} {at' : V} {len : Int} {b : Best} (hn : now.length ≤ 3) (h : b.1.length ≤ 3) : (hereS g now at' len b).1.length ≤ 3 := by
  unfold hereS
  split
  · exact hn
  · exact h
theorem walkR_len {g : Goal} : ∀ (j : Nat) (now : List V) (at' before : V) (dir len : Int) (b : Best), now.length + j ≤ 3 → b.1.length ≤ 3 → (walkR g j now at' before dir len b).1.length ≤ 3
  | 0, now, at', before, dir, len, b, hn, h => hereS_len (by omega) h
  | j + 1, now, at', before, dir, len, b, hn, h => by
    rw [walkR]
    exact dR_len (fun v a c d e b h => walkR_len j _ a c d e b (by rw [List.length_append, List.length_singleton]; omega) h) _ _ _ (hereS_len (by omega) h)
theorem plan_len (from' first : V) (g : Goal) : (planS from' first g).1.2.length ≤ 3 := by
  unfold planS
  by_cases h1 : goalS g ≠ 0
  · rw [if_pos h1]; simp
  rw [if_neg h1]
  by_cases h2 : validS from' = false
  · rw [if_pos h2]; simp
  rw [if_neg h2]
  by_cases h3 : (legS first).2 = false
  · rw [if_pos h3]; simp
  rw [if_neg h3]
  split
  · simp
  · have hk := (goalS_zero (by simpa using h1 : goalS g = 0)).1
    exact walkR_len _ [] _ _ _ _ _ (by have := hk.2.2.2.2; simp only [List.length_nil]; omega) (by simp)

def L_Plans : Lay := { slots := [(5, .ptr 6106 0), (13, .val (.sl tGoal)), (14, .val tVs), (15, .val tI)], boxes := [(6106, [.val tI, .val tI, .val tI])] }
def L_Plans_0 : Lay := { slots := [] }
def L_Plans_1 : Lay := { slots := [(8, .val .bool)] }
def X_Plans : Exit → Option Lay
  | .exit 0 => some L_Plans_0
  | .ret => some L_Plans_1
  | _ => none
abbrev C_Plans : Code := loopC (bodyOf Try.f8) 0
theorem B_Plans (gs : List Goal) (ps : List V) (k x y z : Int) : loopBodyA (P := P) [c_OwnGoal.gc, c_Plan.gc, c_rPlan.gc, c_CheckGoal.gc, c_rCheckGoal.gc, c_SamePath.gc, c_SameGoal.gc] (lpOf []) [] 106 noU (inner C_Plans) L_Plans X_Plans (α := Unit × List Goal × List V × Int × Int × Int × Int × Unit) (fun x => x) (fun x => x) ((), gs, ps, k, x, y, z, ()) =
  Tree.cond (decide (k < (3 : Int))) (Tree.need ((0 : Int) ≤ k ∧ k < (↑(List.length gs) : Int)) (Tree.need (List.length (List.getD gs (Int.toNat k) ([], (0 : Int), (0 : Int), ((0 : Int), (0 : Int)), ((0 : Int), (0 : Int), (0 : Int)), (0 : Int), (0 : Int), (0 : Int))).fst ≤ (24 : Nat)) (Tree.need ((0 : Int) ≤ k ∧ k < (↑(List.length ps) : Int)) (Tree.need ((0 : Int) ≤ k ∧ k < (↑(List.length ps) : Int)) (Tree.need ((0 : Int) ≤ k ∧ k < (↑(List.length gs) : Int)) (Tree.need ((0 : Int) ≤ k ∧ k < (↑(List.length gs) : Int)) (Tree.cond (goalS (List.getD gs (Int.toNat k) ([], (0 : Int), (0 : Int), ((0 : Int), (0 : Int)), ((0 : Int), (0 : Int), (0 : Int)), (0 : Int), (0 : Int), (0 : Int))) != goalS (List.getD gs (Int.toNat k) ([], (0 : Int), (0 : Int), ((0 : Int), (0 : Int)), ((0 : Int), (0 : Int), (0 : Int)), (0 : Int), (0 : Int), (0 : Int)))) (Tree.leaf (Sum.inr (Exit.ret, Lay.st L_Plans_1 noU (false, PUnit.unit)))) (Tree.need ((↑(List.length (planS (List.getD ps (Int.toNat k) ((0 : Int), (0 : Int), (0 : Int))) (x, y, z) (List.getD gs (Int.toNat k) ([], (0 : Int), (0 : Int), ((0 : Int), (0 : Int)), ((0 : Int), (0 : Int), (0 : Int)), (0 : Int), (0 : Int), (0 : Int)))).fst.snd) : Int) < (2 : Int) ^ (62 : Nat)) (Tree.cond (!decide ((planS (List.getD ps (Int.toNat k) ((0 : Int), (0 : Int), (0 : Int))) (x, y, z) (List.getD gs (Int.toNat k) ([], (0 : Int), (0 : Int), ((0 : Int), (0 : Int)), ((0 : Int), (0 : Int), (0 : Int)), (0 : Int), (0 : Int), (0 : Int)))).fst = (rplanS (List.getD ps (Int.toNat k) ((0 : Int), (0 : Int), (0 : Int))) (x, y, z) (List.getD gs (Int.toNat k) ([], (0 : Int), (0 : Int), ((0 : Int), (0 : Int)), ((0 : Int), (0 : Int), (0 : Int)), (0 : Int), (0 : Int), (0 : Int)))).fst)) (Tree.leaf (Sum.inr (Exit.ret, Lay.st L_Plans_1 noU (false, PUnit.unit)))) (Tree.cond ((planS (List.getD ps (Int.toNat k) ((0 : Int), (0 : Int), (0 : Int))) (x, y, z) (List.getD gs (Int.toNat k) ([], (0 : Int), (0 : Int), ((0 : Int), (0 : Int)), ((0 : Int), (0 : Int), (0 : Int)), (0 : Int), (0 : Int), (0 : Int)))).snd != (rplanS (List.getD ps (Int.toNat k) ((0 : Int), (0 : Int), (0 : Int))) (x, y, z) (List.getD gs (Int.toNat k) ([], (0 : Int), (0 : Int), ((0 : Int), (0 : Int)), ((0 : Int), (0 : Int), (0 : Int)), (0 : Int), (0 : Int), (0 : Int)))).snd) (Tree.leaf (Sum.inr (Exit.ret, Lay.st L_Plans_1 noU (false, PUnit.unit)))) (Tree.need ((0 : Int) ≤ k ∧ k < (↑(List.length gs) : Int)) (Tree.need ((↑(List.length (List.getD gs (Int.toNat k) ([], (0 : Int), (0 : Int), ((0 : Int), (0 : Int)), ((0 : Int), (0 : Int), (0 : Int)), (0 : Int), (0 : Int), (0 : Int))).fst) : Int) < (2 : Int) ^ (62 : Nat)) (Tree.cond (!sameG (List.getD gs (Int.toNat k) ([], (0 : Int), (0 : Int), ((0 : Int), (0 : Int)), ((0 : Int), (0 : Int), (0 : Int)), (0 : Int), (0 : Int), (0 : Int))) (List.getD gs (Int.toNat k) ([], (0 : Int), (0 : Int), ((0 : Int), (0 : Int)), ((0 : Int), (0 : Int), (0 : Int)), (0 : Int), (0 : Int), (0 : Int)))) (Tree.leaf (Sum.inr (Exit.ret, Lay.st L_Plans_1 noU (false, PUnit.unit)))) (Tree.leaf (Sum.inl (PUnit.unit, gs, ps, IntKind.wrap IntKind.i64 (k + (1 : Int)), x, y, z, PUnit.unit)))))))))))))))) (Tree.leaf (Sum.inr (Exit.exit (0 : Nat), Lay.st L_Plans_0 noU PUnit.unit))) := by kernel_rfl

def inv_Plans : Unit × List Goal × List V × Int × Int × Int × Int × Unit → Prop := fun (_, gs, ps, k, x, y, z, _) => 0 ≤ k ∧ k ≤ 3 ∧ gs.length = 3 ∧ ps.length = 3 ∧ ∀ g ∈ gs, g.1.length ≤ 10
def O_Plans : Unit × List Goal × List V × Int × Int × Int × Int × Unit → Tree (Exit × St) := fun _ => .leaf (.exit 0, L_Plans_0.st noU ())
def R_Plans : LRun := runOf 106 L_Plans (fun x => x) (inv_Plans) (O_Plans)
theorem K_Plans : LoopOk P [] 106 none noU C_Plans (R_Plans) := by
  refine loop_of hm (cx := [c_OwnGoal.gc, c_Plan.gc, c_rPlan.gc, c_CheckGoal.gc, c_rCheckGoal.gc, c_SamePath.gc, c_SameGoal.gc]) [] (xl := X_Plans) (α := Unit × List Goal × List V × Int × Int × Int × Int × Unit) (fun x => x) (fun (_, gs, ps, k, _) => (3 - k).toNat) (fun _ => rfl) (by kernel_rfl) (by kernel_rfl) ?_ (by kernel_rfl) trivial ?_
  · intro e L' h
    unfold X_Plans at h
    split at h <;> cases h <;> kernel_rfl
  · rintro ⟨⟨⟩, gs, ps, k, x, y, z, ⟨⟩⟩ hinv Q hQ
    refine hold_of_eq (B_Plans gs ps k x y z) ?_

    obtain ⟨h0, h1, h2, h3, h4⟩ := hinv
    rw [W_id (n := k + 1) (by omega) (by omega)]
    refine ⟨fun hk => ?_, fun hk => hQ⟩
    simp only [decide_eq_true_eq] at hk
    have hm : (3 - (k + 1)).toNat < (3 - k).toNat := by omega
    have hg : (gs.getD k.toNat (([], 0, 0, (0, 0), ((0, 0, 0), (0, 0, 0))) : Goal)).1.length ≤ 10 := h4 _ (getD_mem (d := (([], 0, 0, (0, 0), ((0, 0, 0), (0, 0, 0))) : Goal)) (show k.toNat < gs.length by omega))
    generalize gs.getD k.toNat (([], 0, 0, (0, 0), ((0, 0, 0), (0, 0, 0))) : Goal) = g at *
    generalize ps.getD k.toNat (0, 0, 0) = q at *
    have hs := plans_same q (x, y, z) g
    have hl := plan_len q (x, y, z) g
    rw [hs] at hl ⊢
    refine ⟨⟨h0, by omega⟩, by omega, ⟨h0, by omega⟩, ⟨h0, by omega⟩, ⟨h0, by omega⟩, ⟨h0, by omega⟩, fun c => ?_, fun _ => ⟨by omega, fun c => ?_, fun _ => ⟨fun c => ?_, fun _ => ⟨⟨h0, by omega⟩, by omega, fun c => ?_, fun _ => ⟨⟨⟨by omega, by omega, h2, h3, h4⟩, hm⟩, hQ⟩⟩⟩⟩⟩
    · simp at c
    · simp at c
    · simp at c
    · rw [sameG_refl] at c
      simp at c
theorem T_PathPlans (x y z x2 y2 z2 : Int) (l : List V) (m le nn d a b c e f h : Int) (nums : List Int) : fnTree (P := P) [c_awake.gc, c_NewRing.gc, c_kPath.gc, c_kGoal.gc] (lpOf [(0, R_Plans)]) Try.f8 (encL 0 [.agg tV, .agg tV, .agg tGoal, .val tIs] ((x, y, z), (x2, y2, z2), (l, m, le, (nn, d), ((a, b, c), (e, f, h))), nums, ())) =
  Tree.cond (decide ((↑(List.length l) : Int) > (10 : Int))) (Tree.leaf (SV.bool true)) (Tree.need (pr_kPath ((), (0 : Int), nums, (0 : Int), ())) (Tree.need (pr_kGoal ((), (V_kPath ((), (0 : Int), nums, (0 : Int), ())).fst.fst, nums, (V_kPath ((), (0 : Int), nums, (0 : Int), ())).snd, ())) (Tree.need (inv_Plans ((), [(l, m, le, (nn, d), (a, b, c), e, f, h), (V_kGoal ((), (V_kPath ((), (0 : Int), nums, (0 : Int), ())).fst.fst, nums, (V_kPath ((), (0 : Int), nums, (0 : Int), ())).snd, ())).fst, (V_kGoal ((), (V_kPath ((), (0 : Int), nums, (0 : Int), ())).fst.fst, nums, (V_kPath ((), (0 : Int), nums, (0 : Int), ())).snd, ())).fst], [(x, y, z), (x, y, z), (V_kPath ((), (0 : Int), nums, (0 : Int), ())).fst.fst], (0 : Int), x2, y2, z2, ())) (Tree.leaf (SV.bool true))))) := by kernel_rfl

def c_PathPlans : PC P := PC.of (α := V × V × Goal × List Int × Unit) 8 [.agg tV, .agg tV, .agg tGoal, .val tIs] (fun x => x) (fun x => x) (fun _ => rfl)
  (fun _ => none)
  (fun x => .bool true) (by kernel_rfl) (by
    rintro ⟨⟨x, y, z⟩, ⟨x2, y2, z2⟩, ⟨l, m, le, ⟨nn, d⟩, ⟨⟨a, b, c⟩, ⟨e, f, h⟩⟩⟩, nums, ⟨⟩⟩ hp
    refine fn_of hm (by kernel_rfl) (by kernel_rfl) (T_PathPlans x y z x2 y2 z2 l m le nn d a b c e f h nums) ⟨K_Plans, trivial⟩ ?_

    refine ⟨fun c => rfl, fun c => ?_⟩
    simp only [gt_iff_lt, decide_eq_false_iff_not] at c
    have hpr : pr_kPath ((), (0 : Int), nums, (0 : Int), ()) := ⟨by decide, by decide, by decide, by decide⟩
    have hS := S_kPath _ hpr
    generalize V_kPath ((), (0 : Int), nums, (0 : Int), ()) = b at *
    obtain ⟨⟨⟨p, q, r⟩, pl⟩, k1⟩ := b
    obtain ⟨hc, c1, c2⟩ := hS
    dsimp only at hc c1 c2 ⊢
    have hpg : pr_kGoal ((), (p, q, r), nums, k1, ()) := ⟨by omega, by omega⟩
    have hG := S_kGoal _ hpg
    generalize V_kGoal ((), (p, q, r), nums, k1, ()) = b2 at *
    obtain ⟨g2, p2, k2⟩ := b2
    obtain ⟨d1, d2, d3⟩ := hG
    dsimp only at d1 d2 d3 ⊢
    refine ⟨hpr, hpg, ⟨by decide, by decide, rfl, rfl, fun g hg => ?_⟩, rfl⟩
    simp only [List.mem_cons, List.not_mem_nil, or_false] at hg
    rcases hg with rfl | rfl | rfl
    · show l.length ≤ 10; omega
    · omega
    · omega)

end
end Go.MP
