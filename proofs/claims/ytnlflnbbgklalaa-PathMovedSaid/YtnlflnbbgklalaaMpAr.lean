/- The law PathMoved, step by step. -/
import Derived.Test.YtnlflnbbgklalaaMpAq
namespace Go.MP
open Go Go.Sx Go.Proofs
set_option linter.unusedVariables false
set_option linter.unusedSimpArgs false
noncomputable section

theorem kR_len2 {rec : List V → V → V → Int → Int → Best → Best} {now : List V} {at' D : V} {i len n : Int} (hrec : ∀ (v a c : V) (d e : Int) (b : Best), b.1.length ≤ 3 → (rec (now ++ [v]) a c d e b).1.length ≤ 3) :
    ∀ (j : Nat) (k : Int) (b : Best), b.1.length ≤ 3 → (kR rec now at' D i len n j k b).1.length ≤ 3
  | 0, k, b, h => h
  | j + 1, k, b, h => by
    rw [kR]
    refine kR_len2 hrec j (k + 1) _ ?_
    split
    · exact hrec _ _ _ _ _ _ h
    · exact h
theorem dR_len2 {rec : List V → V → V → Int → Int → Best → Best} {g : Goal} {now : List V} {at' before : V} {dir len : Int} (hrec : ∀ (v a c : V) (d e : Int) (b : Best), b.1.length ≤ 3 → (rec (now ++ [v]) a c d e b).1.length ≤ 3) :
    ∀ (l : List V) (i : Int) (b : Best), b.1.length ≤ 3 → (dR rec g now at' before dir len l i b).1.length ≤ 3
  | [], i, b, h => h
  | D :: r, i, b, h => by
    rw [dR]
    refine dR_len2 hrec r (i + 1) _ ?_
    split
    · exact h
    · exact kR_len2 hrec _ _ _ h
theorem hereS_len2 {g : Goal} {now : List V} {at' : V} {len : Int} {b : Best} (hn : now.length ≤ 3) (h : b.1.length ≤ 3) : (hereS g now at' len b).1.length ≤ 3 := by
  unfold hereS
  split
  · exact hn
  · exact h
theorem walkR_len2 {g : Goal} : ∀ (j : Nat) (now : List V) (at' before : V) (dir len : Int) (b : Best), now.length + j ≤ 3 → b.1.length ≤ 3 → (walkR g j now at' before dir len b).1.length ≤ 3
  | 0, now, at', before, dir, len, b, hn, h => hereS_len2 (by omega) h
  | j + 1, now, at', before, dir, len, b, hn, h => by
    rw [walkR]
    exact dR_len2 (fun v a c d e b h => walkR_len2 j _ a c d e b (by rw [List.length_append, List.length_singleton]; omega) h) _ _ _ (hereS_len2 (by omega) h)
theorem plan_len2 (from' first : V) (g : Goal) : (planS from' first g).1.2.length ≤ 3 := by
  unfold planS
  by_cases h1 : goalS g ≠ 0
  · rw [if_pos h1]; simp
  rw [if_neg h1]
  by_cases h2 : validS from' = false
  · rw [if_pos h2]; simp
  rw [if_neg h2]
  by_cases h3 : (legS first).2 = false
  · rw [if_pos h3]; simp
  rw [if_neg h3]
  split
  · simp
  · have hk := (goalS_zero (by simpa using h1 : goalS g = 0)).1
    exact walkR_len2 _ [] _ _ _ _ _ (by have := hk.2.2.2.2; simp only [List.length_nil]; omega) (by simp)


def movedS (v b : V) : V := (IntKind.wrap IntKind.i64 (v.1 + b.1), IntKind.wrap IntKind.i64 (v.2.1 + b.2.1), v.2.2)
theorem movedS_eq {v b : V} (h : R64 v.2.2) (hb : b.2.2 = 0) : movedS v b = vadd v b := by
  unfold movedS vadd
  unfold R64 at h
  rw [hb, Int.add_zero, W_id (n := v.2.2) (by omega) (by omega)]
theorem known_ok {p p' : Pth} {l l' : List Src} {r : Int} (h : csS p l = 0) (h' : csS p' l' = 0) (r0 : 1 ≤ r) (r1 : r ≤ 4000) : (knownS p l p' l' r).2 = 0 := by
  have hb : bothS p l p' l' = 0 := by unfold bothS; rw [h]; simpa using h'
  unfold knownS
  rw [if_neg (by rw [hb]; simp), if_neg (by omega)]
  split
  · rfl
  · split <;> rfl
theorem T_moved (s0_0 s0_1 s0_2 s1_0 s1_1 s1_2 : Int) : fnTree (P := P) [] (lpOf []) Try.f76 (encL 0 [.agg tV, .agg tV] ((s0_0, (s0_1, s0_2)), (s1_0, (s1_1, s1_2)), ())) =
  Tree.leaf (SV.agg [SV.int IntKind.i64 (IntKind.wrap IntKind.i64 (s0_0 + s1_0)), SV.int IntKind.i64 (IntKind.wrap IntKind.i64 (s0_1 + s1_1)), SV.int IntKind.i64 s0_2]) := by kernel_rfl

def c_moved : PC P := PC.of (α := V × V × Unit) 76 [.agg tV, .agg tV] (fun x => x) (fun x => x) (fun _ => rfl)
  (fun _ => none)
  (fun x => svV (movedS x.1 x.2.1)) (by kernel_rfl) (by
    rintro ⟨⟨s0_0, ⟨s0_1, s0_2⟩⟩, ⟨s1_0, ⟨s1_1, s1_2⟩⟩, ⟨⟩⟩ hp
    refine fn_of hm (by kernel_rfl) (by kernel_rfl) (T_moved s0_0 s0_1 s0_2 s1_0 s1_1 s1_2) trivial ?_
    exact rfl)
theorem T_OwnGoal3 (s0_0 : List V) (s0_1 s0_2 s0_3 s0_4 s0_5 s0_6 s0_7 s0_8 s0_9 s0_10 : Int) : fnTree (P := P) [] (lpOf []) Try.f46 (encL 0 [.agg (.pair tVs (.pair tI (.pair tI (.pair tPart (.pair tV tV)))))] ((s0_0, (s0_1, (s0_2, ((s0_3, s0_4), ((s0_5, (s0_6, s0_7)), (s0_8, (s0_9, s0_10))))))), ())) =
  Tree.need (((0 : Nat) + List.length s0_0) * (24 : Nat) ≤ (140737488355328 : Nat)) (Tree.leaf (SV.agg [SV.sl (Ty.pair (Ty.int IntKind.i64) (Ty.pair (Ty.int IntKind.i64) (Ty.int IntKind.i64))) s0_0, SV.int IntKind.i64 s0_1, SV.int IntKind.i64 s0_2, SV.int IntKind.i64 s0_3, SV.int IntKind.i64 s0_4, SV.int IntKind.i64 s0_5, SV.int IntKind.i64 s0_6, SV.int IntKind.i64 s0_7, SV.int IntKind.i64 s0_8, SV.int IntKind.i64 s0_9, SV.int IntKind.i64 s0_10])) := by kernel_rfl

def c_OwnGoal3 : PC P := PC.of (α := (List V × (Int × (Int × ((Int × Int) × (V × V))))) × Unit) 46 [.agg (.pair tVs (.pair tI (.pair tI (.pair tPart (.pair tV tV)))))] (fun x => x) (fun x => x) (fun _ => rfl)
  (fun x => some (x.1.1.length ≤ 1000))
  (fun x => .agg (svG x.1)) (by kernel_rfl) (by
    rintro ⟨⟨s0_0, ⟨s0_1, ⟨s0_2, ⟨⟨s0_3, s0_4⟩, ⟨⟨s0_5, ⟨s0_6, s0_7⟩⟩, ⟨s0_8, ⟨s0_9, s0_10⟩⟩⟩⟩⟩⟩⟩, ⟨⟩⟩ hp
    refine fn_le hm (by kernel_rfl) (by kernel_rfl) (T_OwnGoal3 s0_0 s0_1 s0_2 s0_3 s0_4 s0_5 s0_6 s0_7 s0_8 s0_9 s0_10) trivial (by kernel_rfl) ?_

    try dsimp only at hp
    try dsimp only
    have h' : s0_0.length ≤ 1000 := hp
    exact ⟨by omega, rfl, rfl, rfl, rfl, rfl, rfl, rfl, rfl, rfl, rfl, rfl, trivial⟩)
theorem T_PathMoved (nums : List Int) (dx dy r : Int) : fnTree (P := P) [c_awake.gc, c_NewRing.gc, c_kPath.gc, c_kSources.gc, c_kGoal2.gc, c_Mod64.gc, c_OwnPath.gc, c_OwnGoal3.gc, c_moved.gc, c_Check.gc, c_Known.gc, c_Plan.gc, c_Length.gc, c_Steepest.gc, c_SameVecs.gc] (lpOf []) Try.f16 (encL 0 [.val tIs, .val tI, .val tI, .val tI] (nums, dx, dy, r, ())) =
  Tree.need (pr_kPath ((), (4 : Int), nums, (0 : Int), ()))
  (Tree.need (pr_kPath ((), (4 : Int), nums, (V_kPath ((), (4 : Int), nums, (0 : Int), ())).snd, ()))
    (Tree.need (pr_kSources ((), (V_kPath ((), (4 : Int), nums, (0 : Int), ())).fst, nums, (V_kPath ((), (4 : Int), nums, (V_kPath ((), (4 : Int), nums, (0 : Int), ())).snd, ())).snd, ()))
      (Tree.need (pr_kSources ((), (V_kPath ((), (4 : Int), nums, (V_kPath ((), (4 : Int), nums, (0 : Int), ())).snd, ())).fst, nums, (V_kSources ((), (V_kPath ((), (4 : Int), nums, (0 : Int), ())).fst, nums, (V_kPath ((), (4 : Int), nums, (V_kPath ((), (4 : Int), nums, (0 : Int), ())).snd, ())).snd, ())).snd, ()))
        (Tree.need (pr_kGoal2 ((), (V_kPath ((), (4 : Int), nums, (0 : Int), ())).fst.fst, nums, (V_kSources ((), (V_kPath ((), (4 : Int), nums, (V_kPath ((), (4 : Int), nums, (0 : Int), ())).snd, ())).fst, nums, (V_kSources ((), (V_kPath ((), (4 : Int), nums, (0 : Int), ())).fst, nums, (V_kPath ((), (4 : Int), nums, (V_kPath ((), (4 : Int), nums, (0 : Int), ())).snd, ())).snd, ())).snd, ())).snd, ()))
          (Tree.need ((50000 : Int) ≠ (0 : Int))
            (Tree.need ((50000 : Int) ≠ (0 : Int))
              (Tree.need ((0 : Int) < (4000 : Int) ∧ R64 (4000 : Int))
                (Tree.need (List.length (V_kPath ((), (4 : Int), nums, (0 : Int), ())).fst.snd ≤ (24 : Nat))
                  (Tree.need (List.length (V_kPath ((), (4 : Int), nums, (V_kPath ((), (4 : Int), nums, (0 : Int), ())).snd, ())).fst.snd ≤ (24 : Nat))
                    (Tree.need (List.length (V_kGoal2 ((), (V_kPath ((), (4 : Int), nums, (0 : Int), ())).fst.fst, nums, (V_kSources ((), (V_kPath ((), (4 : Int), nums, (V_kPath ((), (4 : Int), nums, (0 : Int), ())).snd, ())).fst, nums, (V_kSources ((), (V_kPath ((), (4 : Int), nums, (0 : Int), ())).fst, nums, (V_kPath ((), (4 : Int), nums, (V_kPath ((), (4 : Int), nums, (0 : Int), ())).snd, ())).snd, ())).snd, ())).snd, ())).fst.fst ≤ (1000 : Nat))
                      (Tree.cond (checkS (movedS (V_kPath ((), (4 : Int), nums, (0 : Int), ())).fst.fst (Int.tmod dx (50000 : Int), Int.tmod dy (50000 : Int), (0 : Int)), (V_kPath ((), (4 : Int), nums, (0 : Int), ())).fst.snd) != (0 : Int)) (Tree.leaf (SV.bool true))
                        (Tree.cond (checkS (movedS (V_kPath ((), (4 : Int), nums, (V_kPath ((), (4 : Int), nums, (0 : Int), ())).snd, ())).fst.fst (Int.tmod dx (50000 : Int), Int.tmod dy (50000 : Int), (0 : Int)), (V_kPath ((), (4 : Int), nums, (V_kPath ((), (4 : Int), nums, (0 : Int), ())).snd, ())).fst.snd) != (0 : Int)) (Tree.leaf (SV.bool true))
                          (Tree.cond ((knownS (V_kPath ((), (4 : Int), nums, (0 : Int), ())).fst (V_kSources ((), (V_kPath ((), (4 : Int), nums, (0 : Int), ())).fst, nums, (V_kPath ((), (4 : Int), nums, (V_kPath ((), (4 : Int), nums, (0 : Int), ())).snd, ())).snd, ())).fst (V_kPath ((), (4 : Int), nums, (V_kPath ((), (4 : Int), nums, (0 : Int), ())).snd, ())).fst (V_kSources ((), (V_kPath ((), (4 : Int), nums, (V_kPath ((), (4 : Int), nums, (0 : Int), ())).snd, ())).fst, nums, (V_kSources ((), (V_kPath ((), (4 : Int), nums, (0 : Int), ())).fst, nums, (V_kPath ((), (4 : Int), nums, (V_kPath ((), (4 : Int), nums, (0 : Int), ())).snd, ())).snd, ())).snd, ())).fst (IntKind.wrap IntKind.i64 ((1 : Int) + r % (4000 : Int)))).snd != (0 : Int)) (Tree.leaf (SV.bool false))
                            (Tree.cond ((knownS (movedS (V_kPath ((), (4 : Int), nums, (0 : Int), ())).fst.fst (Int.tmod dx (50000 : Int), Int.tmod dy (50000 : Int), (0 : Int)), (V_kPath ((), (4 : Int), nums, (0 : Int), ())).fst.snd) (V_kSources ((), (V_kPath ((), (4 : Int), nums, (0 : Int), ())).fst, nums, (V_kPath ((), (4 : Int), nums, (V_kPath ((), (4 : Int), nums, (0 : Int), ())).snd, ())).snd, ())).fst (movedS (V_kPath ((), (4 : Int), nums, (V_kPath ((), (4 : Int), nums, (0 : Int), ())).snd, ())).fst.fst (Int.tmod dx (50000 : Int), Int.tmod dy (50000 : Int), (0 : Int)), (V_kPath ((), (4 : Int), nums, (V_kPath ((), (4 : Int), nums, (0 : Int), ())).snd, ())).fst.snd) (V_kSources ((), (V_kPath ((), (4 : Int), nums, (V_kPath ((), (4 : Int), nums, (0 : Int), ())).snd, ())).fst, nums, (V_kSources ((), (V_kPath ((), (4 : Int), nums, (0 : Int), ())).fst, nums, (V_kPath ((), (4 : Int), nums, (V_kPath ((), (4 : Int), nums, (0 : Int), ())).snd, ())).snd, ())).snd, ())).fst (IntKind.wrap IntKind.i64 ((1 : Int) + r % (4000 : Int)))).snd != (0 : Int)) (Tree.leaf (SV.bool false))
                              (Tree.cond ((knownS (V_kPath ((), (4 : Int), nums, (0 : Int), ())).fst (V_kSources ((), (V_kPath ((), (4 : Int), nums, (0 : Int), ())).fst, nums, (V_kPath ((), (4 : Int), nums, (V_kPath ((), (4 : Int), nums, (0 : Int), ())).snd, ())).snd, ())).fst (V_kPath ((), (4 : Int), nums, (V_kPath ((), (4 : Int), nums, (0 : Int), ())).snd, ())).fst (V_kSources ((), (V_kPath ((), (4 : Int), nums, (V_kPath ((), (4 : Int), nums, (0 : Int), ())).snd, ())).fst, nums, (V_kSources ((), (V_kPath ((), (4 : Int), nums, (0 : Int), ())).fst, nums, (V_kPath ((), (4 : Int), nums, (V_kPath ((), (4 : Int), nums, (0 : Int), ())).snd, ())).snd, ())).snd, ())).fst (IntKind.wrap IntKind.i64 ((1 : Int) + r % (4000 : Int)))).fst != (knownS (movedS (V_kPath ((), (4 : Int), nums, (0 : Int), ())).fst.fst (Int.tmod dx (50000 : Int), Int.tmod dy (50000 : Int), (0 : Int)), (V_kPath ((), (4 : Int), nums, (0 : Int), ())).fst.snd) (V_kSources ((), (V_kPath ((), (4 : Int), nums, (0 : Int), ())).fst, nums, (V_kPath ((), (4 : Int), nums, (V_kPath ((), (4 : Int), nums, (0 : Int), ())).snd, ())).snd, ())).fst (movedS (V_kPath ((), (4 : Int), nums, (V_kPath ((), (4 : Int), nums, (0 : Int), ())).snd, ())).fst.fst (Int.tmod dx (50000 : Int), Int.tmod dy (50000 : Int), (0 : Int)), (V_kPath ((), (4 : Int), nums, (V_kPath ((), (4 : Int), nums, (0 : Int), ())).snd, ())).fst.snd) (V_kSources ((), (V_kPath ((), (4 : Int), nums, (V_kPath ((), (4 : Int), nums, (0 : Int), ())).snd, ())).fst, nums, (V_kSources ((), (V_kPath ((), (4 : Int), nums, (0 : Int), ())).fst, nums, (V_kPath ((), (4 : Int), nums, (V_kPath ((), (4 : Int), nums, (0 : Int), ())).snd, ())).snd, ())).snd, ())).fst (IntKind.wrap IntKind.i64 ((1 : Int) + r % (4000 : Int)))).fst) (Tree.leaf (SV.bool false))
                                (Tree.cond (lenS (movedS (V_kPath ((), (4 : Int), nums, (0 : Int), ())).fst.fst (Int.tmod dx (50000 : Int), Int.tmod dy (50000 : Int), (0 : Int)), (V_kPath ((), (4 : Int), nums, (0 : Int), ())).fst.snd) != lenS (V_kPath ((), (4 : Int), nums, (0 : Int), ())).fst) (Tree.leaf (SV.bool false))
                                  (Tree.cond (!((steepS (movedS (V_kPath ((), (4 : Int), nums, (0 : Int), ())).fst.fst (Int.tmod dx (50000 : Int), Int.tmod dy (50000 : Int), (0 : Int)), (V_kPath ((), (4 : Int), nums, (0 : Int), ())).fst.snd)).fst == (steepS (V_kPath ((), (4 : Int), nums, (0 : Int), ())).fst).fst && ((steepS (movedS (V_kPath ((), (4 : Int), nums, (0 : Int), ())).fst.fst (Int.tmod dx (50000 : Int), Int.tmod dy (50000 : Int), (0 : Int)), (V_kPath ((), (4 : Int), nums, (0 : Int), ())).fst.snd)).snd == (steepS (V_kPath ((), (4 : Int), nums, (0 : Int), ())).fst).snd && true))) (Tree.leaf (SV.bool false))
                                    (Tree.cond ((planS (V_kPath ((), (4 : Int), nums, (0 : Int), ())).fst.fst ((0 : Int), (0 : Int), (1 : Int)) (V_kGoal2 ((), (V_kPath ((), (4 : Int), nums, (0 : Int), ())).fst.fst, nums, (V_kSources ((), (V_kPath ((), (4 : Int), nums, (V_kPath ((), (4 : Int), nums, (0 : Int), ())).snd, ())).fst, nums, (V_kSources ((), (V_kPath ((), (4 : Int), nums, (0 : Int), ())).fst, nums, (V_kPath ((), (4 : Int), nums, (V_kPath ((), (4 : Int), nums, (0 : Int), ())).snd, ())).snd, ())).snd, ())).snd, ())).fst).snd == (planS (movedS (V_kPath ((), (4 : Int), nums, (0 : Int), ())).fst.fst (Int.tmod dx (50000 : Int), Int.tmod dy (50000 : Int), (0 : Int))) ((0 : Int), (0 : Int), (1 : Int)) ((V_kGoal2 ((), (V_kPath ((), (4 : Int), nums, (0 : Int), ())).fst.fst, nums, (V_kSources ((), (V_kPath ((), (4 : Int), nums, (V_kPath ((), (4 : Int), nums, (0 : Int), ())).snd, ())).fst, nums, (V_kSources ((), (V_kPath ((), (4 : Int), nums, (0 : Int), ())).fst, nums, (V_kPath ((), (4 : Int), nums, (V_kPath ((), (4 : Int), nums, (0 : Int), ())).snd, ())).snd, ())).snd, ())).snd, ())).fst.fst, (V_kGoal2 ((), (V_kPath ((), (4 : Int), nums, (0 : Int), ())).fst.fst, nums, (V_kSources ((), (V_kPath ((), (4 : Int), nums, (V_kPath ((), (4 : Int), nums, (0 : Int), ())).snd, ())).fst, nums, (V_kSources ((), (V_kPath ((), (4 : Int), nums, (0 : Int), ())).fst, nums, (V_kPath ((), (4 : Int), nums, (V_kPath ((), (4 : Int), nums, (0 : Int), ())).snd, ())).snd, ())).snd, ())).snd, ())).fst.snd.fst, (V_kGoal2 ((), (V_kPath ((), (4 : Int), nums, (0 : Int), ())).fst.fst, nums, (V_kSources ((), (V_kPath ((), (4 : Int), nums, (V_kPath ((), (4 : Int), nums, (0 : Int), ())).snd, ())).fst, nums, (V_kSources ((), (V_kPath ((), (4 : Int), nums, (0 : Int), ())).fst, nums, (V_kPath ((), (4 : Int), nums, (V_kPath ((), (4 : Int), nums, (0 : Int), ())).snd, ())).snd, ())).snd, ())).snd, ())).fst.snd.snd.fst, (V_kGoal2 ((), (V_kPath ((), (4 : Int), nums, (0 : Int), ())).fst.fst, nums, (V_kSources ((), (V_kPath ((), (4 : Int), nums, (V_kPath ((), (4 : Int), nums, (0 : Int), ())).snd, ())).fst, nums, (V_kSources ((), (V_kPath ((), (4 : Int), nums, (0 : Int), ())).fst, nums, (V_kPath ((), (4 : Int), nums, (V_kPath ((), (4 : Int), nums, (0 : Int), ())).snd, ())).snd, ())).snd, ())).snd, ())).fst.snd.snd.snd.fst, movedS (V_kGoal2 ((), (V_kPath ((), (4 : Int), nums, (0 : Int), ())).fst.fst, nums, (V_kSources ((), (V_kPath ((), (4 : Int), nums, (V_kPath ((), (4 : Int), nums, (0 : Int), ())).snd, ())).fst, nums, (V_kSources ((), (V_kPath ((), (4 : Int), nums, (0 : Int), ())).fst, nums, (V_kPath ((), (4 : Int), nums, (V_kPath ((), (4 : Int), nums, (0 : Int), ())).snd, ())).snd, ())).snd, ())).snd, ())).fst.snd.snd.snd.snd.fst (Int.tmod dx (50000 : Int), Int.tmod dy (50000 : Int), (0 : Int)), movedS (V_kGoal2 ((), (V_kPath ((), (4 : Int), nums, (0 : Int), ())).fst.fst, nums, (V_kSources ((), (V_kPath ((), (4 : Int), nums, (V_kPath ((), (4 : Int), nums, (0 : Int), ())).snd, ())).fst, nums, (V_kSources ((), (V_kPath ((), (4 : Int), nums, (0 : Int), ())).fst, nums, (V_kPath ((), (4 : Int), nums, (V_kPath ((), (4 : Int), nums, (0 : Int), ())).snd, ())).snd, ())).snd, ())).snd, ())).fst.snd.snd.snd.snd.snd (Int.tmod dx (50000 : Int), Int.tmod dy (50000 : Int), (0 : Int)))).snd)
                                      (Tree.need ((↑(List.length (planS (V_kPath ((), (4 : Int), nums, (0 : Int), ())).fst.fst ((0 : Int), (0 : Int), (1 : Int)) (V_kGoal2 ((), (V_kPath ((), (4 : Int), nums, (0 : Int), ())).fst.fst, nums, (V_kSources ((), (V_kPath ((), (4 : Int), nums, (V_kPath ((), (4 : Int), nums, (0 : Int), ())).snd, ())).fst, nums, (V_kSources ((), (V_kPath ((), (4 : Int), nums, (0 : Int), ())).fst, nums, (V_kPath ((), (4 : Int), nums, (V_kPath ((), (4 : Int), nums, (0 : Int), ())).snd, ())).snd, ())).snd, ())).snd, ())).fst).fst.snd) : Int) < (2 : Int) ^ (62 : Nat)) (Tree.cond (decide ((planS (V_kPath ((), (4 : Int), nums, (0 : Int), ())).fst.fst ((0 : Int), (0 : Int), (1 : Int)) (V_kGoal2 ((), (V_kPath ((), (4 : Int), nums, (0 : Int), ())).fst.fst, nums, (V_kSources ((), (V_kPath ((), (4 : Int), nums, (V_kPath ((), (4 : Int), nums, (0 : Int), ())).snd, ())).fst, nums, (V_kSources ((), (V_kPath ((), (4 : Int), nums, (0 : Int), ())).fst, nums, (V_kPath ((), (4 : Int), nums, (V_kPath ((), (4 : Int), nums, (0 : Int), ())).snd, ())).snd, ())).snd, ())).snd, ())).fst).fst.snd = (planS (movedS (V_kPath ((), (4 : Int), nums, (0 : Int), ())).fst.fst (Int.tmod dx (50000 : Int), Int.tmod dy (50000 : Int), (0 : Int))) ((0 : Int), (0 : Int), (1 : Int)) ((V_kGoal2 ((), (V_kPath ((), (4 : Int), nums, (0 : Int), ())).fst.fst, nums, (V_kSources ((), (V_kPath ((), (4 : Int), nums, (V_kPath ((), (4 : Int), nums, (0 : Int), ())).snd, ())).fst, nums, (V_kSources ((), (V_kPath ((), (4 : Int), nums, (0 : Int), ())).fst, nums, (V_kPath ((), (4 : Int), nums, (V_kPath ((), (4 : Int), nums, (0 : Int), ())).snd, ())).snd, ())).snd, ())).snd, ())).fst.fst, (V_kGoal2 ((), (V_kPath ((), (4 : Int), nums, (0 : Int), ())).fst.fst, nums, (V_kSources ((), (V_kPath ((), (4 : Int), nums, (V_kPath ((), (4 : Int), nums, (0 : Int), ())).snd, ())).fst, nums, (V_kSources ((), (V_kPath ((), (4 : Int), nums, (0 : Int), ())).fst, nums, (V_kPath ((), (4 : Int), nums, (V_kPath ((), (4 : Int), nums, (0 : Int), ())).snd, ())).snd, ())).snd, ())).snd, ())).fst.snd.fst, (V_kGoal2 ((), (V_kPath ((), (4 : Int), nums, (0 : Int), ())).fst.fst, nums, (V_kSources ((), (V_kPath ((), (4 : Int), nums, (V_kPath ((), (4 : Int), nums, (0 : Int), ())).snd, ())).fst, nums, (V_kSources ((), (V_kPath ((), (4 : Int), nums, (0 : Int), ())).fst, nums, (V_kPath ((), (4 : Int), nums, (V_kPath ((), (4 : Int), nums, (0 : Int), ())).snd, ())).snd, ())).snd, ())).snd, ())).fst.snd.snd.fst, (V_kGoal2 ((), (V_kPath ((), (4 : Int), nums, (0 : Int), ())).fst.fst, nums, (V_kSources ((), (V_kPath ((), (4 : Int), nums, (V_kPath ((), (4 : Int), nums, (0 : Int), ())).snd, ())).fst, nums, (V_kSources ((), (V_kPath ((), (4 : Int), nums, (0 : Int), ())).fst, nums, (V_kPath ((), (4 : Int), nums, (V_kPath ((), (4 : Int), nums, (0 : Int), ())).snd, ())).snd, ())).snd, ())).snd, ())).fst.snd.snd.snd.fst, movedS (V_kGoal2 ((), (V_kPath ((), (4 : Int), nums, (0 : Int), ())).fst.fst, nums, (V_kSources ((), (V_kPath ((), (4 : Int), nums, (V_kPath ((), (4 : Int), nums, (0 : Int), ())).snd, ())).fst, nums, (V_kSources ((), (V_kPath ((), (4 : Int), nums, (0 : Int), ())).fst, nums, (V_kPath ((), (4 : Int), nums, (V_kPath ((), (4 : Int), nums, (0 : Int), ())).snd, ())).snd, ())).snd, ())).snd, ())).fst.snd.snd.snd.snd.fst (Int.tmod dx (50000 : Int), Int.tmod dy (50000 : Int), (0 : Int)), movedS (V_kGoal2 ((), (V_kPath ((), (4 : Int), nums, (0 : Int), ())).fst.fst, nums, (V_kSources ((), (V_kPath ((), (4 : Int), nums, (V_kPath ((), (4 : Int), nums, (0 : Int), ())).snd, ())).fst, nums, (V_kSources ((), (V_kPath ((), (4 : Int), nums, (0 : Int), ())).fst, nums, (V_kPath ((), (4 : Int), nums, (V_kPath ((), (4 : Int), nums, (0 : Int), ())).snd, ())).snd, ())).snd, ())).snd, ())).fst.snd.snd.snd.snd.snd (Int.tmod dx (50000 : Int), Int.tmod dy (50000 : Int), (0 : Int)))).fst.snd)) (Tree.leaf (SV.bool true)) (Tree.leaf (SV.bool false)))) (Tree.leaf (SV.bool false)))))))))))))))))))) := by kernel_rfl

def c_PathMoved : PC P := PC.of (α := List Int × Int × Int × Int × Unit) 16 [.val tIs, .val tI, .val tI, .val tI] (fun x => x) (fun x => x) (fun _ => rfl)
  (fun _ => none)
  (fun x => .bool true) (by kernel_rfl) (by
    rintro ⟨nums, dx, dy, r, ⟨⟩⟩ hp
    refine fn_of hm (by kernel_rfl) (by kernel_rfl) (T_PathMoved nums dx dy r) trivial ?_

    try dsimp only at hp
    try dsimp only
    have hpr : pr_kPath ((), (4 : Int), nums, (0 : Int), ()) := ⟨by decide, by decide, by decide, by decide⟩
    have hS := S_kPath _ hpr
    generalize V_kPath ((), (4 : Int), nums, (0 : Int), ()) = b at *
    obtain ⟨⟨⟨x, y, z⟩, q⟩, k1⟩ := b
    obtain ⟨hc, c1, c2, bx⟩ := hS
    dsimp only at hc c1 c2 bx ⊢
    have hpr2 : pr_kPath ((), (4 : Int), nums, k1, ()) := ⟨by omega, by omega, by decide, by decide⟩
    have hS2 := S_kPath _ hpr2
    generalize V_kPath ((), (4 : Int), nums, k1, ()) = b2 at *
    obtain ⟨⟨⟨x2, y2, z2⟩, q2⟩, k2⟩ := b2
    obtain ⟨hc2, d1, d2, _⟩ := hS2
    dsimp only at hc2 d1 d2 ⊢
    have hq : q.length ≤ 20 := checkS_len hc
    have hq2 : q2.length ≤ 20 := checkS_len hc2
    have hps : pr_kSources ((), ((x, y, z), q), nums, k2, ()) := ⟨by omega, by omega, hq⟩
    have hS3 := S_kSources _ hps
    generalize V_kSources ((), ((x, y, z), q), nums, k2, ()) = b3 at *
    obtain ⟨l, k3⟩ := b3
    obtain ⟨e1, e2, e3, e4⟩ := hS3
    dsimp only at e1 e2 e3 e4 ⊢
    have hps2 : pr_kSources ((), ((x2, y2, z2), q2), nums, k3, ()) := ⟨by omega, by omega, hq2⟩
    have hS4 := S_kSources _ hps2
    generalize V_kSources ((), ((x2, y2, z2), q2), nums, k3, ()) = b4 at *
    obtain ⟨m, k4⟩ := b4
    obtain ⟨f1, f2, f3, f4⟩ := hS4
    dsimp only at f1 f2 f3 f4 ⊢
    have hval : validS (x, y, z) = true := (checkS_zero hc).2.1
    have hpg : pr_kGoal2 ((), (x, y, z), nums, k4, ()) := ⟨by omega, by omega, hval⟩
    have hG := S_kGoal2 _ hpg
    generalize V_kGoal2 ((), (x, y, z), nums, k4, ()) = b5 at *
    obtain ⟨⟨gl, gm, gle, ⟨gn, gd⟩, ⟨⟨ga, gb, gc⟩, ⟨ge, gf, gh⟩⟩⟩, p5, k5⟩ := b5
    obtain ⟨hg, _, _, _, _⟩ := hG
    dsimp only at hg ⊢
    have gl5 := hg.len
    dsimp only at gl5
    have cs1 : csS ((x, y, z), q) l = 0 := by unfold csS; rw [if_pos hc]; exact e2
    have cs2 : csS ((x2, y2, z2), q2) m = 0 := by unfold csS; rw [if_pos hc2]; exact f2
    have hd1 := Int.tmod_lt_of_pos dx (show (0 : Int) < 50000 by decide)
    have hd2 := Int.tmod_lt_of_pos dy (show (0 : Int) < 50000 by decide)
    have hd3 := Int.lt_tmod_of_pos dx (show (0 : Int) < 50000 by decide)
    have hd4 := Int.lt_tmod_of_pos dy (show (0 : Int) < 50000 by decide)
    generalize hX : Int.tmod dx 50000 = X at *
    generalize hY : Int.tmod dy 50000 = Y at *
    have v1 := valid_iff.1 hval
    have v2 := valid_iff.1 (checkS_zero hc2).2.1
    have glo := hg.lo
    have ghi := hg.hi
    rw [inB_iff] at v1 v2 glo ghi
    dsimp only at v1 v2 glo ghi bx
    have mv : Mv (X, Y, 0) (gl, gm, gle, (gn, gd), ((ga, gb, gc), (ge, gf, gh))) := ⟨by dsimp only; omega, by dsimp only; omega, rfl, hg⟩
    have m1 : movedS (x, y, z) (X, Y, 0) = vadd (x, y, z) (X, Y, 0) := movedS_eq (by unfold R64; dsimp only; omega) rfl
    have m2 : movedS (x2, y2, z2) (X, Y, 0) = vadd (x2, y2, z2) (X, Y, 0) := movedS_eq (by unfold R64; dsimp only; omega) rfl
    have m3 : movedS (ga, gb, gc) (X, Y, 0) = vadd (ga, gb, gc) (X, Y, 0) := movedS_eq (by unfold R64; dsimp only; omega) rfl
    have m4 : movedS (ge, gf, gh) (X, Y, 0) = vadd (ge, gf, gh) (X, Y, 0) := movedS_eq (by unfold R64; dsimp only; omega) rfl
    rw [m1, m2, m3, m4]
    have r0 := Int.emod_nonneg r (show (4000 : Int) ≠ 0 by decide)
    have r1 := Int.emod_lt_of_pos r (show (0 : Int) < 4000 by decide)
    rw [W_id (n := 1 + r % 4000) (by omega) (by omega)]
    have r0' : 1 ≤ 1 + r % 4000 := by omega
    have r1' : 1 + r % 4000 ≤ 4000 := by omega
    generalize 1 + r % 4000 = R at *
    refine ⟨hpr, hpr2, hps, hps2, hpg, by decide, by decide, ⟨by decide, by decide, by decide⟩, by omega, by omega, by omega, fun _ => rfl, fun a1 => ⟨fun _ => rfl, fun a2 => ?_⟩⟩
    simp only [bne_eq_false_iff_eq] at a1 a2
    have A1 : checkS (mvP (X, Y, 0) ((x, y, z), q)) = 0 := by unfold mvP; dsimp only; exact a1
    have A2 : checkS (mvP (X, Y, 0) ((x2, y2, z2), q2)) = 0 := by unfold mvP; dsimp only; exact a2
    have K := known_moved (d := (X, Y, 0)) (p := ((x, y, z), q)) (p' := ((x2, y2, z2), q2)) (r := R) cs1 cs2 A1 A2
    have K0 := known_ok cs1 cs2 r0' r1'
    have L := len_moved (d := (X, Y, 0)) (p := ((x, y, z), q)) hc A1
    have T := steep_moved (d := (X, Y, 0)) (p := ((x, y, z), q)) hc A1
    have hv2 : validS (vadd (x, y, z) (X, Y, 0)) = true := by
      have := (checkS_zero A1).2.1
      unfold mvP at this
      exact this
    unfold mvP at K L T
    dsimp only at K L T
    have P1 := plan_moved mv (first := (0, 0, 1)) hval ⟨by dsimp only; omega, by dsimp only; omega, by dsimp only; omega, by dsimp only; omega, by unfold R64; dsimp only; omega⟩ hv2
    unfold mvG at P1
    dsimp only at P1
    have PL := plan_len2 (x, y, z) (0, 0, 1) (gl, gm, gle, (gn, gd), ((ga, gb, gc), (ge, gf, gh)))
    rw [K, L, T, P1.1, P1.2, K0]
    clear K K0 L T P1 m1 m2 m3 m4 mv hps hps2 hpg hpr hpr2 A1 A2
    generalize (knownS ((x, y, z), q) l ((x2, y2, z2), q2) m R).1 = u1
    generalize lenS ((x, y, z), q) = u2
    generalize steepS ((x, y, z), q) = u3
    generalize planS (x, y, z) (0, 0, 1) (gl, gm, gle, (gn, gd), ((ga, gb, gc), (ge, gf, gh))) = u4 at *
    have e1 : (u1 != u1) = false := by simp
    have e2 : (u2 != u2) = false := by simp
    have e3 : (!(u3.1 == u3.1 && (u3.2 == u3.2 && true))) = false := by simp
    have e4 : (u4.2 == u4.2) = true := by simp
    have e5 : decide (u4.1.2 = u4.1.2) = true := by simp
    rw [e1, e2, e3, e4, e5]
    exact ⟨fun h => (by cases h), fun _ => ⟨fun h => (by cases h), fun _ => ⟨fun h => (by cases h), fun _ => ⟨fun h => (by cases h), fun _ => ⟨fun h => (by cases h), fun _ => ⟨fun _ => ⟨by omega, fun _ => rfl, fun h => (by cases h)⟩, fun h => (by cases h)⟩⟩⟩⟩⟩⟩)

end
end Go.MP
