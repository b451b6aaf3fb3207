/- The laws PipeBends, PipeWeighs, PipeChecks, PipePieces. -/
import Derived.Test.YtoockflaeaknbaaMsK
import Derived.Test.YtoockflaeaknbaaFw4
namespace Go.MP
open Go Go.Sx Go.Proofs
set_option linter.unusedVariables false
set_option linter.unusedSimpArgs false
noncomputable section
def madeR (x : List Int × Unit) (b : Pth × List Tb × Cs × Bool) : Prop := checkS b.1 = 0 ∧ (b.2.2.2 = true → fitsS b.2.1 b.1 = 0 ∧ b.2.1.length ≤ 4) ∧ (∀ t ∈ b.2.1, ∀ m, 0 ≤ m → m ≤ 22000 → 0 < wetS t m) ∧ AllF b.2.1 ∧ sumT b.2.1 ≤ 19200 * b.2.1.length ∧ b.2.1.length ≤ 4 ∧
  (1 ≤ b.2.2.1.1 ∧ b.2.2.1.1 ≤ 3) ∧ (0 ≤ b.2.2.1.2.1 ∧ b.2.2.1.2.1 ≤ 22000) ∧ OkMu b.2.2.1.2.2.1 ∧ (0 ≤ b.2.2.1.2.2.2 ∧ b.2.2.1.2.2.2 ≤ 4294967296)
def T_made_t (l : List Int) : Tree SV :=
  Tree.need (pr_kPath ((), (6 : Int), l, (0 : Int), ())) (Tree.need ((0 : Int) ≤ (V_kPath ((), (6 : Int), l, (0 : Int), ())).snd ∧ (V_kPath ((), (6 : Int), l, (0 : Int), ())).snd ≤ (400000000 : Int)) (Tree.need ((0 : Int) ≤ (strK l (lenS (V_kPath ((), (6 : Int), l, (0 : Int), ())).fst) (Int.toNat ((1 : Int) + nextS l (V_kPath ((), (6 : Int), l, (0 : Int), ())).snd (4 : Int))) ((V_kPath ((), (6 : Int), l, (0 : Int), ())).snd + (1 : Int)) []).snd ∧ (strK l (lenS (V_kPath ((), (6 : Int), l, (0 : Int), ())).fst) (Int.toNat ((1 : Int) + nextS l (V_kPath ((), (6 : Int), l, (0 : Int), ())).snd (4 : Int))) ((V_kPath ((), (6 : Int), l, (0 : Int), ())).snd + (1 : Int)) []).snd < (1000000000 : Int)) (Tree.leaf (SV.tup [SV.agg [SV.int IntKind.i64 (V_kPath ((), (6 : Int), l, (0 : Int), ())).fst.fst.fst, SV.int IntKind.i64 (V_kPath ((), (6 : Int), l, (0 : Int), ())).fst.fst.snd.fst, SV.int IntKind.i64 (V_kPath ((), (6 : Int), l, (0 : Int), ())).fst.fst.snd.snd, SV.sl (Ty.pair tI (Ty.pair tI tI)) (V_kPath ((), (6 : Int), l, (0 : Int), ())).fst.snd], SV.agg [SV.sl (Ty.pair tI (Ty.pair tI (Ty.pair tI (Ty.pair tI (Ty.pair tI (Ty.pair tI (Ty.pair tI (Ty.pair tI tI)))))))) (strK l (lenS (V_kPath ((), (6 : Int), l, (0 : Int), ())).fst) (Int.toNat ((1 : Int) + nextS l (V_kPath ((), (6 : Int), l, (0 : Int), ())).snd (4 : Int))) ((V_kPath ((), (6 : Int), l, (0 : Int), ())).snd + (1 : Int)) []).fst], SV.agg [SV.int IntKind.i64 (caseK l (strK l (lenS (V_kPath ((), (6 : Int), l, (0 : Int), ())).fst) (Int.toNat ((1 : Int) + nextS l (V_kPath ((), (6 : Int), l, (0 : Int), ())).snd (4 : Int))) ((V_kPath ((), (6 : Int), l, (0 : Int), ())).snd + (1 : Int)) []).snd).fst, SV.int IntKind.i64 (caseK l (strK l (lenS (V_kPath ((), (6 : Int), l, (0 : Int), ())).fst) (Int.toNat ((1 : Int) + nextS l (V_kPath ((), (6 : Int), l, (0 : Int), ())).snd (4 : Int))) ((V_kPath ((), (6 : Int), l, (0 : Int), ())).snd + (1 : Int)) []).snd).snd.fst, SV.int IntKind.i64 (caseK l (strK l (lenS (V_kPath ((), (6 : Int), l, (0 : Int), ())).fst) (Int.toNat ((1 : Int) + nextS l (V_kPath ((), (6 : Int), l, (0 : Int), ())).snd (4 : Int))) ((V_kPath ((), (6 : Int), l, (0 : Int), ())).snd + (1 : Int)) []).snd).snd.snd.fst.fst, SV.int IntKind.i64 (caseK l (strK l (lenS (V_kPath ((), (6 : Int), l, (0 : Int), ())).fst) (Int.toNat ((1 : Int) + nextS l (V_kPath ((), (6 : Int), l, (0 : Int), ())).snd (4 : Int))) ((V_kPath ((), (6 : Int), l, (0 : Int), ())).snd + (1 : Int)) []).snd).snd.snd.fst.snd, SV.int IntKind.i64 (caseK l (strK l (lenS (V_kPath ((), (6 : Int), l, (0 : Int), ())).fst) (Int.toNat ((1 : Int) + nextS l (V_kPath ((), (6 : Int), l, (0 : Int), ())).snd (4 : Int))) ((V_kPath ((), (6 : Int), l, (0 : Int), ())).snd + (1 : Int)) []).snd).snd.snd.snd], SV.bool (decide ((↑(List.length (strK l (lenS (V_kPath ((), (6 : Int), l, (0 : Int), ())).fst) (Int.toNat ((1 : Int) + nextS l (V_kPath ((), (6 : Int), l, (0 : Int), ())).snd (4 : Int))) ((V_kPath ((), (6 : Int), l, (0 : Int), ())).snd + (1 : Int)) []).fst) : Int) > (0 : Int)))]))))
theorem T_made (l : List Int) : fnTree (P := P) [c_NewRing.gc, c_kPath.gc, c_kStr.gc, c_kCase.gc] (lpOf []) Try.f19 (encL 0 [.val tIs] (l, ())) = T_made_t l := by kernel_rfl
def pr_made : List Int × Unit → Prop := fun _ => True
def N_made : List Int × Unit → Pth × List Tb × Cs × Bool → SV := fun x b => .tup [.agg [.int .i64 b.1.1.1, .int .i64 b.1.1.2.1, .int .i64 b.1.1.2.2, .sl tV b.1.2], .agg [.sl tT b.2.1], .agg [.int .i64 b.2.2.1.1, .int .i64 b.2.2.1.2.1, .int .i64 b.2.2.1.2.2.1.1, .int .i64 b.2.2.1.2.2.1.2, .int .i64 b.2.2.1.2.2.2], .bool b.2.2.2]
def Z_made : List Int × Unit → Pth × List Tb × Cs × Bool → Prop := madeR
theorem X_made : ∃ f : List Int × Unit → Pth × List Tb × Cs × Bool, ∀ a, pr_made a → (fun a b => FnOk P 19 (encL 0 [.val tIs] a) (N_made a b) ∧ Z_made a b) a (f a) := by
  refine choose_val (α := List Int × Unit) (β := Pth × List Tb × Cs × Bool) (pr := pr_made) (R := fun a b => FnOk P 19 (encL 0 [.val tIs] a) (N_made a b) ∧ Z_made a b) ?_
  rintro ⟨l, ⟨⟩⟩ hp
  have key : (T_made_t l).holds (fun s => ∃ b, s = N_made (l, ()) b ∧ Z_made (l, ()) b) := by
    unfold T_made_t
    have hpr : pr_kPath ((), (6 : Int), l, (0 : Int), ()) := ⟨by decide, by decide, by decide, by decide⟩
    have hS := S_kPath _ hpr
    generalize V_kPath ((), (6 : Int), l, (0 : Int), ()) = b at *
    obtain ⟨⟨⟨x, y, z⟩, pl⟩, k1⟩ := b
    obtain ⟨hc, h1, h2, _⟩ := hS
    dsimp only at hc h1 h2 ⊢
    have n0 := nextS_rng (l := l) (k := k1) (n := 4) (by omega) (by decide)
    have hn0 : 0 ≤ lenS ((x, y, z), pl) := lenS_nn _
    have hstr := strK_ok (l := l) (n := lenS ((x, y, z), pl)) (1 + nextS l k1 4).toNat (k1 + 1) [] (by omega) ⟨fun t ht => (by cases ht), hn0, by decide, fun t ht => (by cases ht)⟩
    generalize strK l (lenS ((x, y, z), pl)) (1 + nextS l k1 4).toNat (k1 + 1) [] = st at *
    obtain ⟨s, k2⟩ := st
    obtain ⟨a, b, c, d⟩ := hstr
    dsimp only at a b c d ⊢
    rw [List.length_nil] at b
    refine ⟨hpr, ⟨by omega, by omega⟩, ⟨by omega, by omega⟩, ?_⟩
    have m0 := nextS_rng (l := l) (k := k2) (n := 3) (by omega) (by decide)
    have m1 := nextS_rng (l := l) (k := k2 + 1) (n := 22001) (by omega) (by decide)
    have m2 := nextS_rng (l := l) (k := k2 + 1 + 1) (n := 3) (by omega) (by decide)
    have m3 := nextS_rng (l := l) (k := k2 + 1 + 1 + 1) (n := 1048576) (by omega) (by decide)
    have m4 := nextS_rng (l := l) (k := k2 + 1 + 1 + 1 + 1) (n := 300) (by omega) (by decide)
    have m5 := nextS_rng (l := l) (k := k2 + 1 + 1 + 1 + 1 + 1) (n := 300) (by omega) (by decide)
    have mm := mul_rng (a := nextS l (k2 + 1 + 1) 3) (b := nextS l (k2 + 1 + 1 + 1) 1048576) (A := 2) (B := 1048576) m2.1 (by omega) m3.1 (by omega)
    refine ⟨(((x, y, z), pl), s, caseK l k2, decide ((s.length : Int) > 0)), rfl, hc, fun h => ?_, a.wet, a.fair, a.few, by show s.length ≤ 4; omega, ?_, ?_, ?_, ?_⟩
    · have h := of_decide_eq_true h
      obtain ⟨e1, e2⟩ := lenT_str a (by omega)
      have hne : s ≠ [] := fun e => by rw [e] at h; exact absurd h (by decide)
      refine ⟨?_, by show s.length ≤ 4; omega⟩
      have hck := e2 hne
      show fitsS s ((x, y, z), pl) = 0
      unfold fitsS
      rw [if_neg (by simp [hck]), if_neg (by simp [hc]), if_neg (by have := a.le; omega)]
    · show 1 ≤ 1 + nextS l k2 3 ∧ 1 + nextS l k2 3 ≤ 3; omega
    · show 0 ≤ nextS l (k2 + 1) 22001 ∧ nextS l (k2 + 1) 22001 ≤ 22000; omega
    · show 0 ≤ nextS l (k2 + 1 + 1 + 1 + 1) 300 ∧ nextS l (k2 + 1 + 1 + 1 + 1) 300 ≤ nextS l (k2 + 1 + 1 + 1 + 1) 300 + nextS l (k2 + 1 + 1 + 1 + 1 + 1) 300 ∧ nextS l (k2 + 1 + 1 + 1 + 1) 300 + nextS l (k2 + 1 + 1 + 1 + 1 + 1) 300 ≤ 600; omega
    · show 0 ≤ nextS l (k2 + 1 + 1) 3 * nextS l (k2 + 1 + 1 + 1) 1048576 * 1024 ∧ nextS l (k2 + 1 + 1) 3 * nextS l (k2 + 1 + 1 + 1) 1048576 * 1024 ≤ 4294967296; omega
  obtain ⟨s, ⟨b, hs, hb⟩, h⟩ := fn_rel hm (by kernel_rfl) (by kernel_rfl) (T_made l) trivial key
  subst hs
  exact ⟨b, h, hb⟩
def V_made : List Int × Unit → Pth × List Tb × Cs × Bool := Classical.choose X_made
theorem S_made : ∀ a, pr_made a → Z_made a (V_made a) := fun a h => ((Classical.choose_spec X_made) a h).2
def c_made : PC P := PC.of (α := List Int × Unit) 19 [.val tIs] (fun x => x) (fun x => x) (fun _ => rfl) (fun a => some (pr_made a)) (fun a => N_made a (V_made a)) (by kernel_rfl) (fun a h => ((Classical.choose_spec X_made) a h).1)
def L_SameLgL : Lay := { slots := [(0, .val tIs), (1, .val tIs), (5, .val tI)] }
def L_SameLgL_0 : Lay := { slots := [(4, .val .bool)] }
def L_SameLgL_1 : Lay := { slots := [(0, .val tIs), (1, .val tIs)] }
def X_SameLgL : Exit → St → Option Lay
  | .ret, _ => some L_SameLgL_0
  | .exit 0, _ => some L_SameLgL_1
  | _, _ => none
abbrev C_SameLgL : Code := loopC (bodyOf Try.f41) 0
theorem B_SameLgL (a b : List Int) (i : Int) : loopBodyA (P := P) [] (lpOf []) [] 32 noU (inner C_SameLgL) L_SameLgL X_SameLgL (α := List Int × List Int × Int × Unit) (fun x => x) (fun x => x) (a, b, i, ()) =
  Tree.cond (decide (i < (↑(List.length a) : Int))) (Tree.cond (decide (i < (↑(List.length b) : Int))) (Tree.need ((0 : Int) ≤ i ∧ i < (↑(List.length a) : Int)) (Tree.need ((0 : Int) ≤ i ∧ i < (↑(List.length b) : Int)) (Tree.cond (List.getD a (Int.toNat i) (0 : Int) != List.getD b (Int.toNat i) (0 : Int)) (Tree.leaf (Sum.inr (Exit.ret, Lay.st L_SameLgL_0 noU (false, PUnit.unit)))) (Tree.leaf (Sum.inl (a, b, IntKind.wrap IntKind.i64 (i + (1 : Int)), PUnit.unit)))))) (Tree.leaf (Sum.inr (Exit.exit (0 : Nat), Lay.st L_SameLgL_1 noU (a, b, PUnit.unit))))) (Tree.leaf (Sum.inr (Exit.exit (0 : Nat), Lay.st L_SameLgL_1 noU (a, b, PUnit.unit)))) := by kernel_rfl
def inv_SameLgL : List Int × List Int × Int × Unit → Prop := fun (a, b, i, ()) => 0 ≤ i ∧ i ≤ a.length ∧ a = b ∧ (a.length : Int) < 2 ^ 62
def O_SameLgL : List Int × List Int × Int × Unit → Tree (Exit × St) := fun (a, b, i, ()) => (.leaf (.exit 0, L_SameLgL_1.st noU (a, b, ())))
def R_SameLgL : LRun := runOf 32 L_SameLgL (fun x => x) (inv_SameLgL) (O_SameLgL)
theorem K_SameLgL : LoopOk P [] 32 none noU C_SameLgL (R_SameLgL) := by
  refine loop_of hm (cx := []) [] (xl := X_SameLgL) (α := List Int × List Int × Int × Unit) (fun x => x) (fun (a, b, i, ()) => (a.length - i).toNat) (fun _ => rfl) (by kernel_rfl) (by kernel_rfl) ?_ (by kernel_rfl) trivial ?_
  · intro e S L' h
    unfold X_SameLgL at h
    split at h <;> first | (cases h; done) | (cases h; kernel_rfl) | (rcases bif_some h with h | h <;> cases h <;> kernel_rfl)
  · rintro ⟨a, b, i, ⟨⟩⟩ hinv Q hQ
    refine hold_of_eq (B_SameLgL a b i) ?_
    obtain ⟨h0, h1, rfl, h2⟩ := hinv
    rw [W_id (n := i + 1) (by omega) (by omega)]
    refine ⟨fun c1 => ⟨fun c1 => ?_, fun c1 => hQ⟩, fun c1 => hQ⟩
    have c1 := of_decide_eq_true c1
    exact ⟨⟨h0, c1⟩, ⟨h0, c1⟩, fun c2 => absurd c2 (by simp), fun c2 => ⟨⟨⟨by omega, by omega, rfl, h2⟩, by show ((a.length : Int) - (i + 1)).toNat < ((a.length : Int) - i).toNat; omega⟩, hQ⟩⟩
theorem T_SameLongs (a b : List Int) : fnTree (P := P) [] (lpOf [(0, R_SameLgL)]) Try.f41 (encL 0 [.val tIs, .val tIs] (a, b, ())) =
  Tree.need (inv_SameLgL (a, b, (0 : Int), ())) (Tree.leaf (SV.bool ((↑(List.length a) : Int) == (↑(List.length b) : Int)))) := by kernel_rfl
def c_SameLongs : PC P := PC.of (α := List Int × List Int × Unit) 41 [.val tIs, .val tIs] (fun x => x) (fun x => x) (fun _ => rfl)
  (fun x => some (x.1 = x.2.1 ∧ (x.1.length : Int) < 2 ^ 62))
  (fun x => .bool true) (by kernel_rfl) (by
    rintro ⟨a, b, ⟨⟩⟩ hp
    refine fn_of hm (by kernel_rfl) (by kernel_rfl) (T_SameLongs a b) ⟨K_SameLgL, trivial⟩ ?_
    try dsimp only at hp
    try dsimp only
    obtain ⟨rfl, h1⟩ : a = b ∧ (a.length : Int) < 2 ^ 62 := hp
    refine ⟨⟨by decide, by omega, rfl, h1⟩, ?_⟩
    show SV.bool _ = SV.bool true
    simp)
def L_rSameL : Lay := { slots := [(2, .ptr 3031 0), (3, .ptr 4031 0), (5, .val tI)], boxes := [(3031, [.val tTs]), (4031, [.val tTs])] }
def L_rSameL_0 : Lay := { slots := [(4, .val .bool)] }
def L_rSameL_1 : Lay := { slots := [] }
def X_rSameL : Exit → St → Option Lay
  | .ret, _ => some L_rSameL_0
  | .exit 0, _ => some L_rSameL_1
  | _, _ => none
abbrev C_rSameL : Code := loopC (bodyOf Try.f46) 0
theorem B_rSameL (i : Int) (a_0 b_0 : List Tb) : loopBodyA (P := P) [] (lpOf []) [] 31 noU (inner C_rSameL) L_rSameL X_rSameL (α := Unit × Unit × Int × List Tb × List Tb × Unit) (fun x => x) (fun x => x) ((), (), i, a_0, b_0, ()) =
  Tree.cond (decide (i < (↑(List.length a_0) : Int))) (Tree.need ((0 : Int) ≤ i ∧ i < (↑(List.length a_0) : Int)) (Tree.need ((0 : Int) ≤ i ∧ i < (↑(List.length b_0) : Int)) (Tree.cond (!((List.getD a_0 (Int.toNat i) ((0 : Int), (0 : Int), (0 : Int), (0 : Int), (0 : Int), (0 : Int), (0 : Int), (0 : Int), (0 : Int))).fst == (List.getD b_0 (Int.toNat i) ((0 : Int), (0 : Int), (0 : Int), (0 : Int), (0 : Int), (0 : Int), (0 : Int), (0 : Int), (0 : Int))).fst && ((List.getD a_0 (Int.toNat i) ((0 : Int), (0 : Int), (0 : Int), (0 : Int), (0 : Int), (0 : Int), (0 : Int), (0 : Int), (0 : Int))).snd.fst == (List.getD b_0 (Int.toNat i) ((0 : Int), (0 : Int), (0 : Int), (0 : Int), (0 : Int), (0 : Int), (0 : Int), (0 : Int), (0 : Int))).snd.fst && ((List.getD a_0 (Int.toNat i) ((0 : Int), (0 : Int), (0 : Int), (0 : Int), (0 : Int), (0 : Int), (0 : Int), (0 : Int), (0 : Int))).snd.snd.fst == (List.getD b_0 (Int.toNat i) ((0 : Int), (0 : Int), (0 : Int), (0 : Int), (0 : Int), (0 : Int), (0 : Int), (0 : Int), (0 : Int))).snd.snd.fst && ((List.getD a_0 (Int.toNat i) ((0 : Int), (0 : Int), (0 : Int), (0 : Int), (0 : Int), (0 : Int), (0 : Int), (0 : Int), (0 : Int))).snd.snd.snd.fst == (List.getD b_0 (Int.toNat i) ((0 : Int), (0 : Int), (0 : Int), (0 : Int), (0 : Int), (0 : Int), (0 : Int), (0 : Int), (0 : Int))).snd.snd.snd.fst && ((List.getD a_0 (Int.toNat i) ((0 : Int), (0 : Int), (0 : Int), (0 : Int), (0 : Int), (0 : Int), (0 : Int), (0 : Int), (0 : Int))).snd.snd.snd.snd.fst == (List.getD b_0 (Int.toNat i) ((0 : Int), (0 : Int), (0 : Int), (0 : Int), (0 : Int), (0 : Int), (0 : Int), (0 : Int), (0 : Int))).snd.snd.snd.snd.fst && ((List.getD a_0 (Int.toNat i) ((0 : Int), (0 : Int), (0 : Int), (0 : Int), (0 : Int), (0 : Int), (0 : Int), (0 : Int), (0 : Int))).snd.snd.snd.snd.snd.fst == (List.getD b_0 (Int.toNat i) ((0 : Int), (0 : Int), (0 : Int), (0 : Int), (0 : Int), (0 : Int), (0 : Int), (0 : Int), (0 : Int))).snd.snd.snd.snd.snd.fst && ((List.getD a_0 (Int.toNat i) ((0 : Int), (0 : Int), (0 : Int), (0 : Int), (0 : Int), (0 : Int), (0 : Int), (0 : Int), (0 : Int))).snd.snd.snd.snd.snd.snd.fst == (List.getD b_0 (Int.toNat i) ((0 : Int), (0 : Int), (0 : Int), (0 : Int), (0 : Int), (0 : Int), (0 : Int), (0 : Int), (0 : Int))).snd.snd.snd.snd.snd.snd.fst && ((List.getD a_0 (Int.toNat i) ((0 : Int), (0 : Int), (0 : Int), (0 : Int), (0 : Int), (0 : Int), (0 : Int), (0 : Int), (0 : Int))).snd.snd.snd.snd.snd.snd.snd.fst == (List.getD b_0 (Int.toNat i) ((0 : Int), (0 : Int), (0 : Int), (0 : Int), (0 : Int), (0 : Int), (0 : Int), (0 : Int), (0 : Int))).snd.snd.snd.snd.snd.snd.snd.fst && ((List.getD a_0 (Int.toNat i) ((0 : Int), (0 : Int), (0 : Int), (0 : Int), (0 : Int), (0 : Int), (0 : Int), (0 : Int), (0 : Int))).snd.snd.snd.snd.snd.snd.snd.snd == (List.getD b_0 (Int.toNat i) ((0 : Int), (0 : Int), (0 : Int), (0 : Int), (0 : Int), (0 : Int), (0 : Int), (0 : Int), (0 : Int))).snd.snd.snd.snd.snd.snd.snd.snd && true)))))))))) (Tree.leaf (Sum.inr (Exit.ret, Lay.st L_rSameL_0 noU (false, PUnit.unit)))) (Tree.leaf (Sum.inl (PUnit.unit, PUnit.unit, IntKind.wrap IntKind.i64 (i + (1 : Int)), a_0, b_0, PUnit.unit)))))) (Tree.leaf (Sum.inr (Exit.exit (0 : Nat), Lay.st L_rSameL_1 noU PUnit.unit))) := by kernel_rfl
def inv_rSameL : Unit × Unit × Int × List Tb × List Tb × Unit → Prop := fun ((), (), i, a_0, b_0, ()) => 0 ≤ i ∧ i ≤ a_0.length ∧ a_0 = b_0 ∧ (a_0.length : Int) < 2 ^ 62
def O_rSameL : Unit × Unit × Int × List Tb × List Tb × Unit → Tree (Exit × St) := fun ((), (), i, a_0, b_0, ()) => (.leaf (.exit 0, L_rSameL_1.st noU ()))
def R_rSameL : LRun := runOf 31 L_rSameL (fun x => x) (inv_rSameL) (O_rSameL)
theorem K_rSameL : LoopOk P [] 31 none noU C_rSameL (R_rSameL) := by
  refine loop_of hm (cx := []) [] (xl := X_rSameL) (α := Unit × Unit × Int × List Tb × List Tb × Unit) (fun x => x) (fun ((), (), i, a_0, b_0, ()) => (a_0.length - i).toNat) (fun _ => rfl) (by kernel_rfl) (by kernel_rfl) ?_ (by kernel_rfl) trivial ?_
  · intro e S L' h
    unfold X_rSameL at h
    split at h <;> first | (cases h; done) | (cases h; kernel_rfl) | (rcases bif_some h with h | h <;> cases h <;> kernel_rfl)
  · rintro ⟨⟨⟩, ⟨⟩, i, a_0, b_0, ⟨⟩⟩ hinv Q hQ
    refine hold_of_eq (B_rSameL i a_0 b_0) ?_
    obtain ⟨h0, h1, rfl, h2⟩ := hinv
    rw [W_id (n := i + 1) (by omega) (by omega)]
    refine ⟨fun c1 => ?_, fun c1 => hQ⟩
    have c1 := of_decide_eq_true c1
    exact ⟨⟨h0, c1⟩, ⟨h0, c1⟩, fun c2 => absurd c2 (by simp), fun c2 => ⟨⟨⟨by omega, by omega, rfl, h2⟩, by show ((a_0.length : Int) - (i + 1)).toNat < ((a_0.length : Int) - i).toNat; omega⟩, hQ⟩⟩
theorem T_rSame (a_0 b_0 : List Tb) : fnTree (P := P) [] (lpOf [(0, R_rSameL)]) Try.f46 (encL 0 [.agg tTs, .agg tTs] (a_0, b_0, ())) =
  Tree.cond ((↑(List.length a_0) : Int) != (↑(List.length b_0) : Int)) (Tree.leaf (SV.bool false)) (Tree.need (inv_rSameL ((), (), (0 : Int), a_0, b_0, ())) (Tree.leaf (SV.bool true))) := by kernel_rfl
def c_rSame : PC P := PC.of (α := List Tb × List Tb × Unit) 46 [.agg tTs, .agg tTs] (fun x => x) (fun x => x) (fun _ => rfl)
  (fun x => some (x.1 = x.2.1 ∧ (x.1.length : Int) < 2 ^ 62))
  (fun x => .bool true) (by kernel_rfl) (by
    rintro ⟨a_0, b_0, ⟨⟩⟩ hp
    refine fn_of hm (by kernel_rfl) (by kernel_rfl) (T_rSame a_0 b_0) ⟨K_rSameL, trivial⟩ ?_
    try dsimp only at hp
    try dsimp only
    obtain ⟨rfl, h1⟩ : a_0 = b_0 ∧ (a_0.length : Int) < 2 ^ 62 := hp
    exact ⟨fun c => absurd c (by simp), fun _ => ⟨⟨by decide, by omega, rfl, h1⟩, rfl⟩⟩)
theorem tubeS_few {ks : List K2} {L : Int} (hd : Down ks L) (i : Int) {top to : Int} (h0 : 0 ≤ top) (hL : to ≤ L) (ht : top ≤ to) : ((tubeS ks i top to).length : Int) ≤ to - top := tubeS_len hd i h0 _ to (Nat.le_refl _) hL ht
theorem pcsL_len {ks : List K2} {L : Int} (hd : Down ks L) (l : List Tb) : AllF l → ∀ i to : Int, sumT l ≤ to → to ≤ L → ((pcsL ks i to l).length : Int) ≤ to := by
  induction l with
  | nil => intro _ i to h _; simp [pcsL, sumT] at *; exact h
  | cons t r ih =>
    intro h i to h1 h2
    have hp := (h t (by simp)).prod
    have hr := (sumT_rng r fun u hu => h u (by simp [hu])).1
    rw [sumT] at h1
    have h3 := ih (fun u hu => h u (by simp [hu])) (i + 1) (to - t.1 * t.2.1) (by omega) (by omega)
    have h4 := tubeS_few hd i (show 0 ≤ to - t.1 * t.2.1 by omega) h2 (by omega)
    rw [pcsL, List.length_append]
    omega
theorem pcsS_len (l : List Tb) (p : Pth) : ((pcsS l p).length : Int) < 2 ^ 62 := by
  unfold pcsS
  split
  · rename_i h
    obtain ⟨h1, h2, h3⟩ := fitsS_ok h
    obtain ⟨_, _, h4, h5⟩ := checkT_ok h1
    have := pcsL_len (fits_down h) l h4 0 (sumT l) (Int.le_refl _) h3
    omega
  · decide
end
end Go.MP
