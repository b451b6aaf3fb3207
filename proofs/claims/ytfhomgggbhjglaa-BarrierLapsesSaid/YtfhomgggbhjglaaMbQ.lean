/- The law BarrierLapses. -/
import Derived.Test.YtfhomgggbhjglaaMbP
namespace Go.MB
open Go Go.Sx Go.Proofs
set_option linter.unusedVariables false
set_option linter.unusedSimpArgs false
noncomputable section
theorem T_BarrierLapses (nums : List Int) (tick press more btw : Int) : fnTree (P := P) [c_NewRing.gc, c_HouseOf.gc, c_Mod64.gc, c_Proof.gc, c_Lapse.gc, c_awake.gc] (lpOf []) Try.f6 (encL 0 [.val tIs, .val tI, .val tI, .val tI, .val tI] (nums, tick, press, more, btw, ())) =
  Tree.need ((0 : Int) ≤ (0 : Int) ∧ (0 : Int) ≤ (500000000 : Int)) (Tree.need ((0 : Int) < (120 : Int) ∧ R64 (120 : Int)) (Tree.need ((0 : Int) < (1200 : Int) ∧ R64 (1200 : Int)) (Tree.need ((0 : Int) < (600 : Int) ∧ R64 (600 : Int)) (Tree.need (hOk (houK nums (0 : Int))) (Tree.need (hOk (houK nums (0 : Int))) (Tree.need (hOk (houK nums (0 : Int))) (Tree.cond (prS (houK nums (0 : Int)) (tick % (120 : Int)) (IntKind.wrap IntKind.i64 (press % (1200 : Int) + more % (600 : Int)))).snd (Tree.cond (!(prS (houK nums (0 : Int)) (tick % (120 : Int)) (press % (1200 : Int))).snd) (Tree.leaf (SV.bool false)) (Tree.cond (!(lapS (houK nums (0 : Int)) (tick % (120 : Int)) (press % (1200 : Int))).snd == (prS (houK nums (0 : Int)) (tick % (120 : Int)) (press % (1200 : Int))).snd) (Tree.leaf (SV.bool false)) (Tree.cond (!(prS (houK nums (0 : Int)) (tick % (120 : Int)) (press % (1200 : Int))).snd) (Tree.cond ((lapS (houK nums (0 : Int)) (tick % (120 : Int)) (press % (1200 : Int))).fst == (0 : Int)) (Tree.leaf (SV.bool true)) (Tree.leaf (SV.bool false))) (Tree.cond (decide ((lapS (houK nums (0 : Int)) (tick % (120 : Int)) (press % (1200 : Int))).fst ≤ tick % (120 : Int))) (Tree.leaf (SV.bool false)) (Tree.need (hOk (houK nums (0 : Int))) (Tree.need (hOk (houK nums (0 : Int))) (Tree.need ((0 : Int) < IntKind.wrap IntKind.i64 ((lapS (houK nums (0 : Int)) (tick % (120 : Int)) (press % (1200 : Int))).fst - tick % (120 : Int)) ∧ R64 (IntKind.wrap IntKind.i64 ((lapS (houK nums (0 : Int)) (tick % (120 : Int)) (press % (1200 : Int))).fst - tick % (120 : Int)))) (Tree.need (hOk (houK nums (0 : Int))) (Tree.cond (!(prS (houK nums (0 : Int)) (lapS (houK nums (0 : Int)) (tick % (120 : Int)) (press % (1200 : Int))).fst (press % (1200 : Int))).snd) (Tree.cond (prS (houK nums (0 : Int)) (IntKind.wrap IntKind.i64 ((lapS (houK nums (0 : Int)) (tick % (120 : Int)) (press % (1200 : Int))).fst - (1 : Int))) (press % (1200 : Int))).snd (Tree.cond (prS (houK nums (0 : Int)) (IntKind.wrap IntKind.i64 (tick % (120 : Int) + btw % IntKind.wrap IntKind.i64 ((lapS (houK nums (0 : Int)) (tick % (120 : Int)) (press % (1200 : Int))).fst - tick % (120 : Int)))) (press % (1200 : Int))).snd (Tree.leaf (SV.bool true)) (Tree.leaf (SV.bool false))) (Tree.leaf (SV.bool false))) (Tree.leaf (SV.bool false))))))))))) (Tree.cond (!(lapS (houK nums (0 : Int)) (tick % (120 : Int)) (press % (1200 : Int))).snd == (prS (houK nums (0 : Int)) (tick % (120 : Int)) (press % (1200 : Int))).snd) (Tree.leaf (SV.bool false)) (Tree.cond (!(prS (houK nums (0 : Int)) (tick % (120 : Int)) (press % (1200 : Int))).snd) (Tree.cond ((lapS (houK nums (0 : Int)) (tick % (120 : Int)) (press % (1200 : Int))).fst == (0 : Int)) (Tree.leaf (SV.bool true)) (Tree.leaf (SV.bool false))) (Tree.cond (decide ((lapS (houK nums (0 : Int)) (tick % (120 : Int)) (press % (1200 : Int))).fst ≤ tick % (120 : Int))) (Tree.leaf (SV.bool false)) (Tree.need (hOk (houK nums (0 : Int))) (Tree.need (hOk (houK nums (0 : Int))) (Tree.need ((0 : Int) < IntKind.wrap IntKind.i64 ((lapS (houK nums (0 : Int)) (tick % (120 : Int)) (press % (1200 : Int))).fst - tick % (120 : Int)) ∧ R64 (IntKind.wrap IntKind.i64 ((lapS (houK nums (0 : Int)) (tick % (120 : Int)) (press % (1200 : Int))).fst - tick % (120 : Int)))) (Tree.need (hOk (houK nums (0 : Int))) (Tree.cond (!(prS (houK nums (0 : Int)) (lapS (houK nums (0 : Int)) (tick % (120 : Int)) (press % (1200 : Int))).fst (press % (1200 : Int))).snd) (Tree.cond (prS (houK nums (0 : Int)) (IntKind.wrap IntKind.i64 ((lapS (houK nums (0 : Int)) (tick % (120 : Int)) (press % (1200 : Int))).fst - (1 : Int))) (press % (1200 : Int))).snd (Tree.cond (prS (houK nums (0 : Int)) (IntKind.wrap IntKind.i64 (tick % (120 : Int) + btw % IntKind.wrap IntKind.i64 ((lapS (houK nums (0 : Int)) (tick % (120 : Int)) (press % (1200 : Int))).fst - tick % (120 : Int)))) (press % (1200 : Int))).snd (Tree.leaf (SV.bool true)) (Tree.leaf (SV.bool false))) (Tree.leaf (SV.bool false))) (Tree.leaf (SV.bool false))))))))))))))))) := by kernel_rfl
def c_BarrierLapses : PC P := PC.of (α := List Int × Int × Int × Int × Int × Unit) 6 [.val tIs, .val tI, .val tI, .val tI, .val tI] (fun x => x) (fun x => x) (fun _ => rfl)
  (fun _ => none)
  (fun x => .bool true) (by kernel_rfl) (by
    rintro ⟨nums, tick, press, more, btw, ⟨⟩⟩ hp
    refine fn_of hm (by kernel_rfl) (by kernel_rfl) (T_BarrierLapses nums tick press more btw) trivial ?_
    try dsimp only at hp
    try dsimp only
    have hk := houK_hOk nums (k := 0) (by decide)
    generalize houK nums 0 = h at *
    have t1 := Int.emod_nonneg tick (show (120 : Int) ≠ 0 by decide)
    have t2 := Int.emod_lt_of_pos tick (show (0 : Int) < 120 by decide)
    have p1 := Int.emod_nonneg press (show (1200 : Int) ≠ 0 by decide)
    have p2 := Int.emod_lt_of_pos press (show (0 : Int) < 1200 by decide)
    have m1 := Int.emod_nonneg more (show (600 : Int) ≠ 0 by decide)
    have m2 := Int.emod_lt_of_pos more (show (0 : Int) < 600 by decide)
    rw [W_id (n := press % 1200 + more % 600) (by omega) (by omega)]
    generalize tick % 120 = t at *
    generalize press % 1200 = p at *
    generalize more % 600 = m at *
    obtain ⟨l1, l2, l3⟩ := lap_ok h (t := t) (p := p) t1 (by omega)
    have hp' := pr_press (h := h) (t := t) (p := p) (q := p + m) (by omega)
    rw [l1]
    have ee : ∀ z : Bool, (z == z) = true := fun z => by simp
    rw [ee]
    cases c : (prS h t p).2 with
    | false =>
      have e0 := l2 c
      rw [e0]
      refine ⟨by decide, ⟨by decide, by decide, by decide⟩, ⟨by decide, by decide, by decide⟩, ⟨by decide, by decide, by decide⟩, hk, hk, hk, fun c1 => ?_, fun c1 => ?_⟩
      · rw [hp' c1] at c; cases c
      · exact ⟨fun h => (by cases h), fun _ => ⟨fun _ => ⟨fun _ => rfl, fun h => (by cases h)⟩, fun h => (by cases h)⟩⟩
    | true =>
      obtain ⟨n1, n2, n3, n4⟩ := l3 c
      generalize (lapS h t p).1 = n at *
      rw [W_id (n := n - t) (by omega) (by omega), W_id (n := n - 1) (by omega) (by omega)]
      have b1 := Int.emod_nonneg btw (show n - t ≠ 0 by omega)
      have b2 := Int.emod_lt_of_pos btw (show 0 < n - t by omega)
      rw [W_id (n := t + btw % (n - t)) (by omega) (by omega), n3, n4 (n - 1) (by omega) (by omega), n4 (t + btw % (n - t)) (by omega) (by omega)]
      have rest : Tree.holds (fun s => s = SV.bool true) (.cond (decide (n ≤ t)) (.leaf (.bool false)) (.need (hOk h) (.need (hOk h) (.need (0 < n - t ∧ R64 (n - t)) (.need (hOk h) (.cond (!false) (.cond true (.cond true (.leaf (.bool true)) (.leaf (.bool false))) (.leaf (.bool false))) (.leaf (.bool false)))))))) := by
        refine ⟨fun d => absurd (of_decide_eq_true d) (by omega), fun _ => ⟨hk, hk, ⟨by omega, by omega, by omega⟩, hk, fun _ => ⟨fun _ => ⟨fun _ => rfl, fun h => (by cases h)⟩, fun h => (by cases h)⟩, fun h => (by cases h)⟩⟩
      exact ⟨by decide, ⟨by decide, by decide, by decide⟩, ⟨by decide, by decide, by decide⟩, ⟨by decide, by decide, by decide⟩, hk, hk, hk, fun _ => ⟨fun h => (by cases h), fun _ => ⟨fun h => (by cases h), fun _ => ⟨fun h => (by cases h), fun _ => rest⟩⟩⟩, fun _ => ⟨fun h => (by cases h), fun _ => ⟨fun h => (by cases h), fun _ => rest⟩⟩⟩)
end
end Go.MB
