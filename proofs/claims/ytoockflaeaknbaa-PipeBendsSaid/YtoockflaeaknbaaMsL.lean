/- The laws PipeBends, PipeWeighs, PipeChecks, PipePieces. -/
import Derived.Test.YtoockflaeaknbaaMsK
import Derived.Test.YtoockflaeaknbaaFw4
namespace Go.MP
open Go Go.Sx Go.Proofs
set_option linter.unusedVariables false
set_option linter.unusedSimpArgs false
noncomputable section
theorem T_PipeBends (v_0 v_1 v_2 w_0 w_1 w_2 : Int) : fnTree (P := P) [c_Side.gc, c_rSide.gc, c_Bend.gc, c_rBend.gc, c_awake.gc] (lpOf []) Try.f3 (encL 0 [.agg tV, .agg tV] ((v_0, (v_1, v_2)), (w_0, (w_1, w_2)), ())) =
  Tree.cond ((sideS (v_0, v_1, v_2)).fst == (sideS (v_0, v_1, v_2)).fst && ((sideS (v_0, v_1, v_2)).snd == (sideS (v_0, v_1, v_2)).snd && true)) (Tree.cond ((bendV (v_0, v_1, v_2) (w_0, w_1, w_2)).fst == (bendV (v_0, v_1, v_2) (w_0, w_1, w_2)).fst && ((bendV (v_0, v_1, v_2) (w_0, w_1, w_2)).snd == (bendV (v_0, v_1, v_2) (w_0, w_1, w_2)).snd && true)) (Tree.leaf (SV.bool true)) (Tree.leaf (SV.bool false))) (Tree.leaf (SV.bool false)) := by kernel_rfl
def c_PipeBends : PC P := PC.of (α := V × V × Unit) 3 [.agg tV, .agg tV] (fun x => x) (fun x => x) (fun _ => rfl)
  (fun _ => none)
  (fun x => .bool true) (by kernel_rfl) (by
    rintro ⟨⟨v_0, ⟨v_1, v_2⟩⟩, ⟨w_0, ⟨w_1, w_2⟩⟩, ⟨⟩⟩ hp
    refine fn_of hm (by kernel_rfl) (by kernel_rfl) (T_PipeBends v_0 v_1 v_2 w_0 w_1 w_2) trivial ?_
    try dsimp only at hp
    try dsimp only
    have e : ∀ a b : Int, (a == a && (b == b && true)) = true := fun a b => by simp
    rw [e, e]
    exact ⟨fun _ => ⟨fun _ => rfl, fun h => (by cases h)⟩, fun h => (by cases h)⟩)
def madeR (x : List Int × Unit) (b : Pth × List Tb × Cs × Bool) : Prop := checkS b.1 = 0 ∧ (b.2.2.2 = true → fitsS b.2.1 b.1 = 0 ∧ b.2.1.length ≤ 4) ∧ (∀ t ∈ b.2.1, ∀ m, 0 ≤ m → m ≤ 22000 → 0 < wetS t m) ∧ AllF b.2.1 ∧ sumT b.2.1 ≤ 19200 * b.2.1.length ∧ b.2.1.length ≤ 4 ∧
  (1 ≤ b.2.2.1.1 ∧ b.2.2.1.1 ≤ 3) ∧ (0 ≤ b.2.2.1.2.1 ∧ b.2.2.1.2.1 ≤ 22000) ∧ OkMu b.2.2.1.2.2.1 ∧ (0 ≤ b.2.2.1.2.2.2 ∧ b.2.2.1.2.2.2 ≤ 4294967296)
def T_made_t (l : List Int) : Tree SV :=
  Tree.need (pr_kPath ((), (6 : Int), l, (0 : Int), ())) (Tree.need ((0 : Int) ≤ (V_kPath ((), (6 : Int), l, (0 : Int), ())).snd ∧ (V_kPath ((), (6 : Int), l, (0 : Int), ())).snd ≤ (400000000 : Int)) (Tree.need ((0 : Int) ≤ (strK l (lenS (V_kPath ((), (6 : Int), l, (0 : Int), ())).fst) (Int.toNat ((1 : Int) + nextS l (V_kPath ((), (6 : Int), l, (0 : Int), ())).snd (4 : Int))) ((V_kPath ((), (6 : Int), l, (0 : Int), ())).snd + (1 : Int)) []).snd ∧ (strK l (lenS (V_kPath ((), (6 : Int), l, (0 : Int), ())).fst) (Int.toNat ((1 : Int) + nextS l (V_kPath ((), (6 : Int), l, (0 : Int), ())).snd (4 : Int))) ((V_kPath ((), (6 : Int), l, (0 : Int), ())).snd + (1 : Int)) []).snd < (1000000000 : Int)) (Tree.leaf (SV.tup [SV.agg [SV.int IntKind.i64 (V_kPath ((), (6 : Int), l, (0 : Int), ())).fst.fst.fst, SV.int IntKind.i64 (V_kPath ((), (6 : Int), l, (0 : Int), ())).fst.fst.snd.fst, SV.int IntKind.i64 (V_kPath ((), (6 : Int), l, (0 : Int), ())).fst.fst.snd.snd, SV.sl (Ty.pair tI (Ty.pair tI tI)) (V_kPath ((), (6 : Int), l, (0 : Int), ())).fst.snd], SV.agg [SV.sl (Ty.pair tI (Ty.pair tI (Ty.pair tI (Ty.pair tI (Ty.pair tI (Ty.pair tI (Ty.pair tI (Ty.pair tI tI)))))))) (strK l (lenS (V_kPath ((), (6 : Int), l, (0 : Int), ())).fst) (Int.toNat ((1 : Int) + nextS l (V_kPath ((), (6 : Int), l, (0 : Int), ())).snd (4 : Int))) ((V_kPath ((), (6 : Int), l, (0 : Int), ())).snd + (1 : Int)) []).fst], SV.agg [SV.int IntKind.i64 (caseK l (strK l (lenS (V_kPath ((), (6 : Int), l, (0 : Int), ())).fst) (Int.toNat ((1 : Int) + nextS l (V_kPath ((), (6 : Int), l, (0 : Int), ())).snd (4 : Int))) ((V_kPath ((), (6 : Int), l, (0 : Int), ())).snd + (1 : Int)) []).snd).fst, SV.int IntKind.i64 (caseK l (strK l (lenS (V_kPath ((), (6 : Int), l, (0 : Int), ())).fst) (Int.toNat ((1 : Int) + nextS l (V_kPath ((), (6 : Int), l, (0 : Int), ())).snd (4 : Int))) ((V_kPath ((), (6 : Int), l, (0 : Int), ())).snd + (1 : Int)) []).snd).snd.fst, SV.int IntKind.i64 (caseK l (strK l (lenS (V_kPath ((), (6 : Int), l, (0 : Int), ())).fst) (Int.toNat ((1 : Int) + nextS l (V_kPath ((), (6 : Int), l, (0 : Int), ())).snd (4 : Int))) ((V_kPath ((), (6 : Int), l, (0 : Int), ())).snd + (1 : Int)) []).snd).snd.snd.fst.fst, SV.int IntKind.i64 (caseK l (strK l (lenS (V_kPath ((), (6 : Int), l, (0 : Int), ())).fst) (Int.toNat ((1 : Int) + nextS l (V_kPath ((), (6 : Int), l, (0 : Int), ())).snd (4 : Int))) ((V_kPath ((), (6 : Int), l, (0 : Int), ())).snd + (1 : Int)) []).snd).snd.snd.fst.snd, SV.int IntKind.i64 (caseK l (strK l (lenS (V_kPath ((), (6 : Int), l, (0 : Int), ())).fst) (Int.toNat ((1 : Int) + nextS l (V_kPath ((), (6 : Int), l, (0 : Int), ())).snd (4 : Int))) ((V_kPath ((), (6 : Int), l, (0 : Int), ())).snd + (1 : Int)) []).snd).snd.snd.snd], SV.bool (decide ((↑(List.length (strK l (lenS (V_kPath ((), (6 : Int), l, (0 : Int), ())).fst) (Int.toNat ((1 : Int) + nextS l (V_kPath ((), (6 : Int), l, (0 : Int), ())).snd (4 : Int))) ((V_kPath ((), (6 : Int), l, (0 : Int), ())).snd + (1 : Int)) []).fst) : Int) > (0 : Int)))]))))
theorem T_made (l : List Int) : fnTree (P := P) [c_NewRing.gc, c_kPath.gc, c_kStr.gc, c_kCase.gc] (lpOf []) Try.f19 (encL 0 [.val tIs] (l, ())) = T_made_t l := by kernel_rfl
def pr_made : List Int × Unit → Prop := fun _ => True
def N_made : List Int × Unit → Pth × List Tb × Cs × Bool → SV := fun x b => .tup [.agg [.int .i64 b.1.1.1, .int .i64 b.1.1.2.1, .int .i64 b.1.1.2.2, .sl tV b.1.2], .agg [.sl tT b.2.1], .agg [.int .i64 b.2.2.1.1, .int .i64 b.2.2.1.2.1, .int .i64 b.2.2.1.2.2.1.1, .int .i64 b.2.2.1.2.2.1.2, .int .i64 b.2.2.1.2.2.2], .bool b.2.2.2]
def Z_made : List Int × Unit → Pth × List Tb × Cs × Bool → Prop := madeR
theorem X_made : ∃ f : List Int × Unit → Pth × List Tb × Cs × Bool, ∀ a, pr_made a → (fun a b => FnOk P 19 (encL 0 [.val tIs] a) (N_made a b) ∧ Z_made a b) a (f a) := by
  refine choose_val (α := List Int × Unit) (β := Pth × List Tb × Cs × Bool) (pr := pr_made) (R := fun a b => FnOk P 19 (encL 0 [.val tIs] a) (N_made a b) ∧ Z_made a b) ?_
  rintro ⟨l, ⟨⟩⟩ hp
  have key : (T_made_t l).holds (fun s => ∃ b, s = N_made (l, ()) b ∧ Z_made (l, ()) b) := by
    unfold T_made_t
    have hpr : pr_kPath ((), (6 : Int), l, (0 : Int), ()) := ⟨by decide, by decide, by decide, by decide⟩
    have hS := S_kPath _ hpr
    generalize V_kPath ((), (6 : Int), l, (0 : Int), ()) = b at *
    obtain ⟨⟨⟨x, y, z⟩, pl⟩, k1⟩ := b
    obtain ⟨hc, h1, h2, _⟩ := hS
    dsimp only at hc h1 h2 ⊢
    have n0 := nextS_rng (l := l) (k := k1) (n := 4) (by omega) (by decide)
    have hn0 : 0 ≤ lenS ((x, y, z), pl) := lenS_nn _
    have hstr := strK_ok (l := l) (n := lenS ((x, y, z), pl)) (1 + nextS l k1 4).toNat (k1 + 1) [] (by omega) ⟨fun t ht => (by cases ht), hn0, by decide, fun t ht => (by cases ht)⟩
    generalize strK l (lenS ((x, y, z), pl)) (1 + nextS l k1 4).toNat (k1 + 1) [] = st at *
    obtain ⟨s, k2⟩ := st
    obtain ⟨a, b, c, d⟩ := hstr
    dsimp only at a b c d ⊢
    rw [List.length_nil] at b
    refine ⟨hpr, ⟨by omega, by omega⟩, ⟨by omega, by omega⟩, ?_⟩
    have m0 := nextS_rng (l := l) (k := k2) (n := 3) (by omega) (by decide)
    have m1 := nextS_rng (l := l) (k := k2 + 1) (n := 22001) (by omega) (by decide)
    have m2 := nextS_rng (l := l) (k := k2 + 1 + 1) (n := 3) (by omega) (by decide)
    have m3 := nextS_rng (l := l) (k := k2 + 1 + 1 + 1) (n := 1048576) (by omega) (by decide)
    have m4 := nextS_rng (l := l) (k := k2 + 1 + 1 + 1 + 1) (n := 300) (by omega) (by decide)
    have m5 := nextS_rng (l := l) (k := k2 + 1 + 1 + 1 + 1 + 1) (n := 300) (by omega) (by decide)
    have mm := mul_rng (a := nextS l (k2 + 1 + 1) 3) (b := nextS l (k2 + 1 + 1 + 1) 1048576) (A := 2) (B := 1048576) m2.1 (by omega) m3.1 (by omega)
    refine ⟨(((x, y, z), pl), s, caseK l k2, decide ((s.length : Int) > 0)), rfl, hc, fun h => ?_, a.wet, a.fair, a.few, by show s.length ≤ 4; omega, ?_, ?_, ?_, ?_⟩
    · have h := of_decide_eq_true h
      obtain ⟨e1, e2⟩ := lenT_str a (by omega)
      have hne : s ≠ [] := fun e => by rw [e] at h; exact absurd h (by decide)
      refine ⟨?_, by show s.length ≤ 4; omega⟩
      have hck := e2 hne
      show fitsS s ((x, y, z), pl) = 0
      unfold fitsS
      rw [if_neg (by simp [hck]), if_neg (by simp [hc]), if_neg (by have := a.le; omega)]
    · show 1 ≤ 1 + nextS l k2 3 ∧ 1 + nextS l k2 3 ≤ 3; omega
    · show 0 ≤ nextS l (k2 + 1) 22001 ∧ nextS l (k2 + 1) 22001 ≤ 22000; omega
    · show 0 ≤ nextS l (k2 + 1 + 1 + 1 + 1) 300 ∧ nextS l (k2 + 1 + 1 + 1 + 1) 300 ≤ nextS l (k2 + 1 + 1 + 1 + 1) 300 + nextS l (k2 + 1 + 1 + 1 + 1 + 1) 300 ∧ nextS l (k2 + 1 + 1 + 1 + 1) 300 + nextS l (k2 + 1 + 1 + 1 + 1 + 1) 300 ≤ 600; omega
    · show 0 ≤ nextS l (k2 + 1 + 1) 3 * nextS l (k2 + 1 + 1 + 1) 1048576 * 1024 ∧ nextS l (k2 + 1 + 1) 3 * nextS l (k2 + 1 + 1 + 1) 1048576 * 1024 ≤ 4294967296; omega
  obtain ⟨s, ⟨b, hs, hb⟩, h⟩ := fn_rel hm (by kernel_rfl) (by kernel_rfl) (T_made l) trivial key
  subst hs
  exact ⟨b, h, hb⟩
def V_made : List Int × Unit → Pth × List Tb × Cs × Bool := Classical.choose X_made
theorem S_made : ∀ a, pr_made a → Z_made a (V_made a) := fun a h => ((Classical.choose_spec X_made) a h).2
def c_made : PC P := PC.of (α := List Int × Unit) 19 [.val tIs] (fun x => x) (fun x => x) (fun _ => rfl) (fun a => some (pr_made a)) (fun a => N_made a (V_made a)) (by kernel_rfl) (fun a h => ((Classical.choose_spec X_made) a h).1)
theorem wgh_one {t : Tb} {m : Int} (h : Fair t) (h9 : t.1 * t.2.1 ≤ 1048576) (h0 : 0 ≤ m) (h1 : m ≤ 40000) : wghS [t] m = t.1 * t.2.1 * wetS t m := by
  have hp := h.prod
  have hc : checkT [t] = 0 := by
    unfold checkT
    have ha : [t].any badT = false := AllF.any fun u hu => by rw [List.mem_singleton.1 hu]; exact h
    rw [if_neg (by simp), if_neg (by simp), if_neg (by rw [ha]; exact Bool.false_ne_true), if_neg]
    show ¬ (t.1 * t.2.1 + 0 > 1048576)
    omega
  unfold wghS
  rw [if_pos ⟨hc, h0, h1⟩]
  show t.1 * t.2.1 * wetS t m + 0 = _
  rw [Int.add_zero]
theorem prod_le {l : List Tb} (h : AllF l) : ∀ t ∈ l, t.1 * t.2.1 ≤ sumT l := by
  induction l with
  | nil => intro t ht; cases ht
  | cons u r ih =>
    intro t ht
    have hu := (h u (by simp)).prod
    have hr := sumT_rng r fun v hv => h v (by simp [hv])
    rw [sumT]
    rcases List.mem_cons.1 ht with rfl | ht
    · omega
    · have := ih (fun v hv => h v (by simp [hv])) t ht
      omega
def steL : List Tb → Int
  | [] => 0
  | t :: r => t.1 * t.2.1 * t.2.2.2.1 + steL r
theorem steL_step {l : List Tb} {i : Int} (h0 : 0 ≤ i) (h : i < l.length) : steL (l.drop i.toNat) = (l.getD i.toNat zT).1 * (l.getD i.toNat zT).2.1 * (l.getD i.toNat zT).2.2.2.1 + steL (l.drop (i + 1).toNat) := by
  rw [drop_step zT h0 h]; rfl
theorem wgh_diff (a b : Int) (ha : 0 ≤ a ∧ a ≤ 40000) (hb : 0 ≤ b ∧ b ≤ 40000) (l : List Tb) : AllF l → wghL b l - wghL a l = (a - b) * steL l := by
  induction l with
  | nil => intro _; simp [wghL, steL]
  | cons t r ih =>
    intro h
    have h1 := (h t (by simp)).wet ha.1 ha.2
    have h2 := (h t (by simp)).wet hb.1 hb.2
    have h3 := ih fun u hu => h u (by simp [hu])
    rw [wghL, wghL, steL, h1.1, h2.1]
    have e : t.1 * t.2.1 * (t.2.2.1 - b * t.2.2.2.1) - t.1 * t.2.1 * (t.2.2.1 - a * t.2.2.2.1) = (a - b) * (t.1 * t.2.1 * t.2.2.2.1) := by grind
    rw [Int.mul_add]
    omega
theorem steL_rng (l : List Tb) : AllF l → 0 ≤ steL l ∧ steL l ≤ 640000000 * l.length := by
  induction l with
  | nil => intro _; simp [steL]
  | cons t r ih =>
    intro h
    have h1 := (h t (by simp)).prod
    have h2 := (h t (by simp)).ste
    have h3 := ih fun u hu => h u (by simp [hu])
    have h4 := mul_rng (a := t.1 * t.2.1) (b := t.2.2.2.1) (A := 1600000) (B := 400) (by omega) (by omega) (by omega) h2.2
    rw [steL, List.length_cons]
    omega
def L_PipeWeighsL : Lay := { slots := [(1, .val tI), (2, .val tI), (8, .ptr 9091 0), (11, .val tI), (12, .val tI), (13, .val tI)], boxes := [(9091, [.val tTs])] }
def L_PipeWeighsL_0 : Lay := { slots := [(1, .val tI), (2, .val tI), (8, .ptr 9091 0), (11, .val tI), (12, .val tI)], boxes := [(9091, [.val tTs])] }
def X_PipeWeighsL : Exit → St → Option Lay
  | .exit 0, _ => some L_PipeWeighsL_0
  | _, _ => none
abbrev C_PipeWeighsL : Code := loopC (bodyOf Try.f6) 0
theorem B_PipeWeighsL (a b s u i : Int) (l_0 : List Tb) : loopBodyA (P := P) [c_Weight.gc] (lpOf []) [] 91 noU (inner C_PipeWeighsL) L_PipeWeighsL X_PipeWeighsL (α := Int × Int × Unit × Int × Int × Int × List Tb × Unit) (fun x => x) (fun x => x) (a, b, (), s, u, i, l_0, ()) =
  Tree.cond (decide (i < (↑(List.length l_0) : Int))) (Tree.need ((0 : Int) ≤ i ∧ i < (↑(List.length l_0) : Int)) (Tree.need ((↑(List.length [List.getD l_0 (Int.toNat i) ((0 : Int), (0 : Int), (0 : Int), (0 : Int), (0 : Int), (0 : Int), (0 : Int), (0 : Int), (0 : Int))]) : Int) < (2 : Int) ^ (62 : Nat)) (Tree.need ((0 : Int) ≤ i ∧ i < (↑(List.length l_0) : Int)) (Tree.need ((0 : Int) ≤ i ∧ i < (↑(List.length l_0) : Int)) (Tree.need ((0 : Int) ≤ i ∧ i < (↑(List.length l_0) : Int)) (Tree.leaf (Sum.inl (a, b, PUnit.unit, IntKind.wrap IntKind.i64 (s + wghS [List.getD l_0 (Int.toNat i) ((0 : Int), (0 : Int), (0 : Int), (0 : Int), (0 : Int), (0 : Int), (0 : Int), (0 : Int), (0 : Int))] a), IntKind.wrap IntKind.i64 (u + IntKind.wrap IntKind.i64 (IntKind.wrap IntKind.i64 ((List.getD l_0 (Int.toNat i) ((0 : Int), (0 : Int), (0 : Int), (0 : Int), (0 : Int), (0 : Int), (0 : Int), (0 : Int), (0 : Int))).fst * (List.getD l_0 (Int.toNat i) ((0 : Int), (0 : Int), (0 : Int), (0 : Int), (0 : Int), (0 : Int), (0 : Int), (0 : Int), (0 : Int))).snd.fst) * (List.getD l_0 (Int.toNat i) ((0 : Int), (0 : Int), (0 : Int), (0 : Int), (0 : Int), (0 : Int), (0 : Int), (0 : Int), (0 : Int))).snd.snd.snd.fst)), IntKind.wrap IntKind.i64 (i + (1 : Int)), l_0, PUnit.unit)))))))) (Tree.leaf (Sum.inr (Exit.exit (0 : Nat), Lay.st L_PipeWeighsL_0 noU (a, b, PUnit.unit, s, u, l_0, PUnit.unit)))) := by kernel_rfl
def inv_PipeWeighsL : Int × Int × Unit × Int × Int × Int × List Tb × Unit → Prop := fun (a, b, (), s, u, i, l_0, ()) => 0 ≤ i ∧ i ≤ l_0.length ∧ l_0.length ≤ 4 ∧ AllF l_0 ∧ (∀ t ∈ l_0, t.1 * t.2.1 ≤ 1048576) ∧ 0 ≤ a ∧ a ≤ 22000 ∧ -25600000000000 * i ≤ s ∧ s ≤ 25600000000000 * i ∧ 0 ≤ u ∧ u ≤ 640000000 * i
def O_PipeWeighsL : Int × Int × Unit × Int × Int × Int × List Tb × Unit → Tree (Exit × St) := fun (a, b, (), s, u, i, l_0, ()) => (.leaf (.exit 0, L_PipeWeighsL_0.st noU (a, b, (), (s + wghL a (l_0.drop i.toNat)), (u + steL (l_0.drop i.toNat)), l_0, ())))
def R_PipeWeighsL : LRun := runOf 91 L_PipeWeighsL (fun x => x) (inv_PipeWeighsL) (O_PipeWeighsL)
theorem K_PipeWeighsL : LoopOk P [] 91 none noU C_PipeWeighsL (R_PipeWeighsL) := by
  refine loop_of hm (cx := [c_Weight.gc]) [] (xl := X_PipeWeighsL) (α := Int × Int × Unit × Int × Int × Int × List Tb × Unit) (fun x => x) (fun (a, b, (), s, u, i, l_0, ()) => (l_0.length - i).toNat) (fun _ => rfl) (by kernel_rfl) (by kernel_rfl) ?_ (by kernel_rfl) trivial ?_
  · intro e S L' h
    unfold X_PipeWeighsL at h
    split at h <;> first | (cases h; done) | (cases h; kernel_rfl) | (rcases bif_some h with h | h <;> cases h <;> kernel_rfl)
  · rintro ⟨a, b, ⟨⟩, s, u, i, l_0, ⟨⟩⟩ hinv Q hQ
    refine hold_of_eq (B_PipeWeighsL a b s u i l_0) ?_
    obtain ⟨h0, h1, h2, h3, h4, h5, h6, h7, h8, h9, h10⟩ := hinv
    rw [W_id (n := i + 1) (by omega) (by omega)]
    have hQ' : Q (.exit 0, L_PipeWeighsL_0.st noU (a, b, (), s + wghL a (l_0.drop i.toNat), u + steL (l_0.drop i.toNat), l_0, ())) := hQ
    refine ⟨fun c1 => ?_, fun c1 => ?_⟩
    · have c1 := of_decide_eq_true c1
      have hmem := mem_getD (d := zT) h0 c1
      have hf := h3 _ hmem
      have hp := hf.prod
      have hs := hf.ste
      have hw := hf.wgh h5 (show a ≤ 40000 by omega)
      have hone := wgh_one (m := a) hf (h4 _ hmem) h5 (by omega)
      have hc := hf.cnt
      have hl := hf.len
      rw [wghL_step h0 c1, steL_step h0 c1, ← Int.add_assoc, ← Int.add_assoc] at hQ'
      generalize l_0.getD i.toNat zT = t at *
      have hq := mul_rng (a := t.1 * t.2.1) (b := t.2.2.2.1) (A := 1600000) (B := 400) (by omega) (by omega) (by omega) hs.2
      rw [hone, W_id (n := s + t.1 * t.2.1 * wetS t a) (by omega) (by omega), W_id (n := t.1 * t.2.1) (by omega) (by omega), W_id (n := t.1 * t.2.1 * t.2.2.2.1) (by omega) (by omega), W_id (n := u + t.1 * t.2.1 * t.2.2.2.1) (by omega) (by omega)]
      have hm : ((l_0.length : Int) - (i + 1)).toNat < ((l_0.length : Int) - i).toNat := by omega
      have hn : 0 ≤ i ∧ i < (l_0.length : Int) := ⟨h0, c1⟩
      exact ⟨hn, by simp only [List.length_cons, List.length_nil]; decide, hn, hn, hn, ⟨⟨by omega, by omega, h2, h3, h4, h5, h6, by omega, by omega, by omega, by omega⟩, hm⟩, hQ'⟩
    · have c1 := of_decide_eq_false c1
      rw [drop_end c1, wghL_nil, Int.add_zero, show steL [] = 0 from rfl, Int.add_zero] at hQ'
      exact hQ'
theorem T_PipeWeighs (s0 : List Int) (a b : Int) : fnTree (P := P) [c_made.gc, c_awake.gc, c_Mod64.gc, c_Weight.gc] (lpOf [(0, R_PipeWeighsL)]) Try.f6 (encL 0 [.val tIs, .val tI, .val tI] (s0, a, b, ())) =
  Tree.need (pr_made (s0, ())) (Tree.cond (!(V_made (s0, ())).snd.snd.snd) (Tree.leaf (SV.bool true)) (Tree.need ((0 : Int) < (22001 : Int) ∧ R64 (22001 : Int)) (Tree.need ((0 : Int) < (22001 : Int) ∧ R64 (22001 : Int)) (Tree.need (inv_PipeWeighsL (a % (22001 : Int), b % (22001 : Int), (), (0 : Int), (0 : Int), (0 : Int), (V_made (s0, ())).snd.fst, ())) (Tree.need ((↑(List.length (V_made (s0, ())).snd.fst) : Int) < (2 : Int) ^ (62 : Nat)) (Tree.cond (wghS (V_made (s0, ())).snd.fst (a % (22001 : Int)) == (0 : Int) + wghL (a % (22001 : Int)) (List.drop (Int.toNat (0 : Int)) (V_made (s0, ())).snd.fst)) (Tree.need ((↑(List.length (V_made (s0, ())).snd.fst) : Int) < (2 : Int) ^ (62 : Nat)) (Tree.need ((↑(List.length (V_made (s0, ())).snd.fst) : Int) < (2 : Int) ^ (62 : Nat)) (Tree.cond (IntKind.wrap IntKind.i64 (wghS (V_made (s0, ())).snd.fst (b % (22001 : Int)) - wghS (V_made (s0, ())).snd.fst (a % (22001 : Int))) == IntKind.wrap IntKind.i64 (IntKind.wrap IntKind.i64 (a % (22001 : Int) - b % (22001 : Int)) * ((0 : Int) + steL (List.drop (Int.toNat (0 : Int)) (V_made (s0, ())).snd.fst)))) (Tree.leaf (SV.bool true)) (Tree.leaf (SV.bool false))))) (Tree.leaf (SV.bool false)))))))) := by kernel_rfl
def c_PipeWeighs : PC P := PC.of (α := List Int × Int × Int × Unit) 6 [.val tIs, .val tI, .val tI] (fun x => x) (fun x => x) (fun _ => rfl)
  (fun _ => none)
  (fun x => .bool true) (by kernel_rfl) (by
    rintro ⟨s0, a, b, ⟨⟩⟩ hp
    refine fn_of hm (by kernel_rfl) (by kernel_rfl) (T_PipeWeighs s0 a b) ⟨K_PipeWeighsL, trivial⟩ ?_
    try dsimp only at hp
    try dsimp only
    have hS := S_made (s0, ()) trivial
    generalize V_made (s0, ()) = m at *
    obtain ⟨p, l, c, is⟩ := m
    obtain ⟨h1, h2, h3, h4, h5, h6, h7, h8, h9, h10⟩ := hS
    dsimp only at h1 h2 h3 h4 h5 h6 h7 h8 h9 h10 ⊢
    have ha := Int.emod_nonneg a (show (22001 : Int) ≠ 0 by decide)
    have ha2 := Int.emod_lt_of_pos a (show (0 : Int) < 22001 by decide)
    have hb := Int.emod_nonneg b (show (22001 : Int) ≠ 0 by decide)
    have hb2 := Int.emod_lt_of_pos b (show (0 : Int) < 22001 by decide)
    have hR : (0 : Int) < 22001 ∧ R64 22001 := ⟨by decide, by decide, by decide⟩
    refine ⟨trivial, fun d1 => rfl, fun d1 => ?_⟩
    obtain ⟨hf, _⟩ := h2 (by simpa using d1)
    have hck := (fitsS_ok hf).1
    obtain ⟨_, _, _, hsum⟩ := checkT_ok hck
    generalize a % 22001 = x at *
    generalize b % 22001 = y at *
    have ex : wghS l x = wghL x l := by unfold wghS; rw [if_pos ⟨hck, by omega, by omega⟩]
    have ey : wghS l y = wghL y l := by unfold wghS; rw [if_pos ⟨hck, by omega, by omega⟩]
    have hd := wgh_diff x y ⟨ha, by omega⟩ ⟨hb, by omega⟩ l h4
    have hst := steL_rng l h4
    have rx := wghL_rng ha (show x ≤ 40000 by omega) l h4
    have ry := wghL_rng hb (show y ≤ 40000 by omega) l h4
    have hlen : (l.length : Int) < 2 ^ 62 := by omega
    have e0 : ∀ z : Int, 0 + z = z := Int.zero_add
    have hm := mulB (a := x - y) (b := steL l) (A := 22000) (B := 2560000000) (by omega) (by omega)
    simp only [Int.toNat_zero, List.drop_zero, e0, ex, ey]
    rw [W_id (n := wghL y l - wghL x l) (by omega) (by omega), W_id (n := x - y) (by omega) (by omega), W_id (n := (x - y) * steL l) (by omega) (by omega), hd]
    have e1 : ∀ z : Int, (z == z) = true := fun z => by simp
    rw [e1, e1]
    exact ⟨hR, hR, ⟨by decide, by omega, h6, h4, fun t ht => Int.le_trans (prod_le h4 t ht) hsum, ha, by omega, by decide, by decide, by decide, by decide⟩, hlen, fun _ => ⟨hlen, hlen, fun _ => rfl, fun h => (by cases h)⟩, fun h => (by cases h)⟩)
theorem T_big (l_0 : List Tb) (p_0 p_1 p_2 : Int) (p_3 : List V) : fnTree (P := P) [c_BigPath.gc] (lpOf []) Try.f23 (encL 0 [.agg tTs, .agg (.pair tV tVs)] (l_0, ((p_0, (p_1, p_2)), p_3), ())) =
  Tree.cond (decide ((↑(List.length l_0) : Int) > (10 : Int))) (Tree.leaf (SV.bool true)) (Tree.leaf (SV.bool (decide ((↑(List.length p_3) : Int) > (24 : Int))))) := by kernel_rfl
def c_big : PC P := PC.of (α := List Tb × (V × List V) × Unit) 23 [.agg tTs, .agg (.pair tV tVs)] (fun x => x) (fun x => x) (fun _ => rfl)
  (fun _ => none)
  (fun x => .bool (decide ((x.1.length : Int) > 10) || decide ((x.2.1.2.length : Int) > 24))) (by kernel_rfl) (by
    rintro ⟨l_0, ⟨⟨p_0, ⟨p_1, p_2⟩⟩, p_3⟩, ⟨⟩⟩ hp
    refine fn_of hm (by kernel_rfl) (by kernel_rfl) (T_big l_0 p_0 p_1 p_2 p_3) trivial ?_
    try dsimp only at hp
    try dsimp only
    refine ⟨fun h => ?_, fun h => ?_⟩
    · rw [h, Bool.true_or]; exact rfl
    · rw [h, Bool.false_or]; exact rfl)
def L_SamePcL : Lay := { slots := [(0, .val (.sl (.pair tI tV))), (1, .val (.sl (.pair tI tV))), (5, .val tI)] }
def L_SamePcL_0 : Lay := { slots := [(4, .val .bool)] }
def L_SamePcL_1 : Lay := { slots := [] }
def X_SamePcL : Exit → St → Option Lay
  | .ret, _ => some L_SamePcL_0
  | .exit 0, _ => some L_SamePcL_1
  | _, _ => none
abbrev C_SamePcL : Code := loopC (bodyOf Try.f29) 0
theorem B_SamePcL (a b : List (Int × V)) (i : Int) : loopBodyA (P := P) [] (lpOf []) [] 26 noU (inner C_SamePcL) L_SamePcL X_SamePcL (α := List (Int × V) × List (Int × V) × Int × Unit) (fun x => x) (fun x => x) (a, b, i, ()) =
  Tree.cond (decide (i < (↑(List.length a) : Int))) (Tree.need ((0 : Int) ≤ i ∧ i < (↑(List.length a) : Int)) (Tree.need ((0 : Int) ≤ i ∧ i < (↑(List.length b) : Int)) (Tree.cond (!((List.getD a (Int.toNat i) ((0 : Int), (0 : Int), (0 : Int), (0 : Int))).fst == (List.getD b (Int.toNat i) ((0 : Int), (0 : Int), (0 : Int), (0 : Int))).fst && ((List.getD a (Int.toNat i) ((0 : Int), (0 : Int), (0 : Int), (0 : Int))).snd.fst == (List.getD b (Int.toNat i) ((0 : Int), (0 : Int), (0 : Int), (0 : Int))).snd.fst && ((List.getD a (Int.toNat i) ((0 : Int), (0 : Int), (0 : Int), (0 : Int))).snd.snd.fst == (List.getD b (Int.toNat i) ((0 : Int), (0 : Int), (0 : Int), (0 : Int))).snd.snd.fst && ((List.getD a (Int.toNat i) ((0 : Int), (0 : Int), (0 : Int), (0 : Int))).snd.snd.snd == (List.getD b (Int.toNat i) ((0 : Int), (0 : Int), (0 : Int), (0 : Int))).snd.snd.snd && true))))) (Tree.leaf (Sum.inr (Exit.ret, Lay.st L_SamePcL_0 noU (false, PUnit.unit)))) (Tree.leaf (Sum.inl (a, b, IntKind.wrap IntKind.i64 (i + (1 : Int)), PUnit.unit)))))) (Tree.leaf (Sum.inr (Exit.exit (0 : Nat), Lay.st L_SamePcL_1 noU PUnit.unit))) := by kernel_rfl
def inv_SamePcL : List (Int × V) × List (Int × V) × Int × Unit → Prop := fun (a, b, i, ()) => 0 ≤ i ∧ i ≤ a.length ∧ a = b ∧ (a.length : Int) < 2 ^ 62
def O_SamePcL : List (Int × V) × List (Int × V) × Int × Unit → Tree (Exit × St) := fun (a, b, i, ()) => (.leaf (.exit 0, L_SamePcL_1.st noU ()))
def R_SamePcL : LRun := runOf 26 L_SamePcL (fun x => x) (inv_SamePcL) (O_SamePcL)
theorem K_SamePcL : LoopOk P [] 26 none noU C_SamePcL (R_SamePcL) := by
  refine loop_of hm (cx := []) [] (xl := X_SamePcL) (α := List (Int × V) × List (Int × V) × Int × Unit) (fun x => x) (fun (a, b, i, ()) => (a.length - i).toNat) (fun _ => rfl) (by kernel_rfl) (by kernel_rfl) ?_ (by kernel_rfl) trivial ?_
  · intro e S L' h
    unfold X_SamePcL at h
    split at h <;> first | (cases h; done) | (cases h; kernel_rfl) | (rcases bif_some h with h | h <;> cases h <;> kernel_rfl)
  · rintro ⟨a, b, i, ⟨⟩⟩ hinv Q hQ
    refine hold_of_eq (B_SamePcL a b i) ?_
    obtain ⟨h0, h1, rfl, h2⟩ := hinv
    rw [W_id (n := i + 1) (by omega) (by omega)]
    refine ⟨fun c1 => ?_, fun c1 => hQ⟩
    have c1 := of_decide_eq_true c1
    exact ⟨⟨h0, c1⟩, ⟨h0, c1⟩, fun c2 => absurd c2 (by simp), fun c2 => ⟨⟨⟨by omega, by omega, rfl, h2⟩, by show ((a.length : Int) - (i + 1)).toNat < ((a.length : Int) - i).toNat; omega⟩, hQ⟩⟩
theorem T_SamePieces (a b : List (Int × V)) : fnTree (P := P) [] (lpOf [(0, R_SamePcL)]) Try.f29 (encL 0 [.val (.sl (.pair tI tV)), .val (.sl (.pair tI tV))] (a, b, ())) =
  Tree.cond ((↑(List.length a) : Int) != (↑(List.length b) : Int)) (Tree.leaf (SV.bool false)) (Tree.need (inv_SamePcL (a, b, (0 : Int), ())) (Tree.leaf (SV.bool true))) := by kernel_rfl
def c_SamePieces : PC P := PC.of (α := List (Int × V) × List (Int × V) × Unit) 29 [.val (.sl (.pair tI tV)), .val (.sl (.pair tI tV))] (fun x => x) (fun x => x) (fun _ => rfl)
  (fun x => some (x.1 = x.2.1 ∧ (x.1.length : Int) < 2 ^ 62))
  (fun x => .bool true) (by kernel_rfl) (by
    rintro ⟨a, b, ⟨⟩⟩ hp
    refine fn_of hm (by kernel_rfl) (by kernel_rfl) (T_SamePieces a b) ⟨K_SamePcL, trivial⟩ ?_
    try dsimp only at hp
    try dsimp only
    obtain ⟨rfl, h1⟩ : a = b ∧ (a.length : Int) < 2 ^ 62 := hp
    exact ⟨fun c => absurd c (by simp), fun _ => ⟨⟨by decide, by omega, rfl, h1⟩, rfl⟩⟩)
def L_SameLgL : Lay := { slots := [(0, .val tIs), (1, .val tIs), (5, .val tI)] }
def L_SameLgL_0 : Lay := { slots := [(4, .val .bool)] }
def L_SameLgL_1 : Lay := { slots := [(0, .val tIs), (1, .val tIs)] }
def X_SameLgL : Exit → St → Option Lay
  | .ret, _ => some L_SameLgL_0
  | .exit 0, _ => some L_SameLgL_1
  | _, _ => none
abbrev C_SameLgL : Code := loopC (bodyOf Try.f41) 0
theorem B_SameLgL (a b : List Int) (i : Int) : loopBodyA (P := P) [] (lpOf []) [] 32 noU (inner C_SameLgL) L_SameLgL X_SameLgL (α := List Int × List Int × Int × Unit) (fun x => x) (fun x => x) (a, b, i, ()) =
  Tree.cond (decide (i < (↑(List.length a) : Int))) (Tree.cond (decide (i < (↑(List.length b) : Int))) (Tree.need ((0 : Int) ≤ i ∧ i < (↑(List.length a) : Int)) (Tree.need ((0 : Int) ≤ i ∧ i < (↑(List.length b) : Int)) (Tree.cond (List.getD a (Int.toNat i) (0 : Int) != List.getD b (Int.toNat i) (0 : Int)) (Tree.leaf (Sum.inr (Exit.ret, Lay.st L_SameLgL_0 noU (false, PUnit.unit)))) (Tree.leaf (Sum.inl (a, b, IntKind.wrap IntKind.i64 (i + (1 : Int)), PUnit.unit)))))) (Tree.leaf (Sum.inr (Exit.exit (0 : Nat), Lay.st L_SameLgL_1 noU (a, b, PUnit.unit))))) (Tree.leaf (Sum.inr (Exit.exit (0 : Nat), Lay.st L_SameLgL_1 noU (a, b, PUnit.unit)))) := by kernel_rfl
def inv_SameLgL : List Int × List Int × Int × Unit → Prop := fun (a, b, i, ()) => 0 ≤ i ∧ i ≤ a.length ∧ a = b ∧ (a.length : Int) < 2 ^ 62
def O_SameLgL : List Int × List Int × Int × Unit → Tree (Exit × St) := fun (a, b, i, ()) => (.leaf (.exit 0, L_SameLgL_1.st noU (a, b, ())))
def R_SameLgL : LRun := runOf 32 L_SameLgL (fun x => x) (inv_SameLgL) (O_SameLgL)
theorem K_SameLgL : LoopOk P [] 32 none noU C_SameLgL (R_SameLgL) := by
  refine loop_of hm (cx := []) [] (xl := X_SameLgL) (α := List Int × List Int × Int × Unit) (fun x => x) (fun (a, b, i, ()) => (a.length - i).toNat) (fun _ => rfl) (by kernel_rfl) (by kernel_rfl) ?_ (by kernel_rfl) trivial ?_
  · intro e S L' h
    unfold X_SameLgL at h
    split at h <;> first | (cases h; done) | (cases h; kernel_rfl) | (rcases bif_some h with h | h <;> cases h <;> kernel_rfl)
  · rintro ⟨a, b, i, ⟨⟩⟩ hinv Q hQ
    refine hold_of_eq (B_SameLgL a b i) ?_
    obtain ⟨h0, h1, rfl, h2⟩ := hinv
    rw [W_id (n := i + 1) (by omega) (by omega)]
    refine ⟨fun c1 => ⟨fun c1 => ?_, fun c1 => hQ⟩, fun c1 => hQ⟩
    have c1 := of_decide_eq_true c1
    exact ⟨⟨h0, c1⟩, ⟨h0, c1⟩, fun c2 => absurd c2 (by simp), fun c2 => ⟨⟨⟨by omega, by omega, rfl, h2⟩, by show ((a.length : Int) - (i + 1)).toNat < ((a.length : Int) - i).toNat; omega⟩, hQ⟩⟩
theorem T_SameLongs (a b : List Int) : fnTree (P := P) [] (lpOf [(0, R_SameLgL)]) Try.f41 (encL 0 [.val tIs, .val tIs] (a, b, ())) =
  Tree.need (inv_SameLgL (a, b, (0 : Int), ())) (Tree.leaf (SV.bool ((↑(List.length a) : Int) == (↑(List.length b) : Int)))) := by kernel_rfl
def c_SameLongs : PC P := PC.of (α := List Int × List Int × Unit) 41 [.val tIs, .val tIs] (fun x => x) (fun x => x) (fun _ => rfl)
  (fun x => some (x.1 = x.2.1 ∧ (x.1.length : Int) < 2 ^ 62))
  (fun x => .bool true) (by kernel_rfl) (by
    rintro ⟨a, b, ⟨⟩⟩ hp
    refine fn_of hm (by kernel_rfl) (by kernel_rfl) (T_SameLongs a b) ⟨K_SameLgL, trivial⟩ ?_
    try dsimp only at hp
    try dsimp only
    obtain ⟨rfl, h1⟩ : a = b ∧ (a.length : Int) < 2 ^ 62 := hp
    refine ⟨⟨by decide, by omega, rfl, h1⟩, ?_⟩
    show SV.bool _ = SV.bool true
    simp)
def L_OwnString : Lay := { slots := [(0, .agg tTs)] }
theorem T_OwnString (l_0 : List Tb) : mTree (P := P) [] (lpOf []) Try.f34 L_OwnString true (l_0, ()) =
  Tree.need (((0 : Nat) + List.length l_0) * (72 : Nat) ≤ (140737488355328 : Nat)) (Tree.leaf { res := SV.agg [SV.own (nat_lit 100)], boxes := [], news := [Ob.row (50 : Nat) (Ty.pair (Ty.int IntKind.i64) (Ty.pair (Ty.int IntKind.i64) (Ty.pair (Ty.int IntKind.i64) (Ty.pair (Ty.int IntKind.i64) (Ty.pair (Ty.int IntKind.i64) (Ty.pair (Ty.int IntKind.i64) (Ty.pair (Ty.int IntKind.i64) (Ty.pair (Ty.int IntKind.i64) (Ty.int IntKind.i64))))))))) l_0] }) := by kernel_rfl
def c_OwnString : XC P := XC.of (α := List Tb × Unit) 34 L_OwnString (fun x => x) (fun x => x) (fun _ => rfl)
  (fun x => some ((x.1.length : Int) < 1000000))
  (fun x => ⟨.agg [.own 100], [], [.row 50 tT x.1]⟩) (by kernel_rfl) (by kernel_rfl) (by
    rintro ⟨l_0, ⟨⟩⟩ hp
    refine m_of hm (own := true) (by kernel_rfl) (by kernel_rfl) (by kernel_rfl) (T_OwnString l_0) trivial ?_
    try dsimp only at hp
    try dsimp only
    have hp' : (l_0.length : Int) < 1000000 := hp
    exact ⟨by omega, rfl⟩)
def L_rSameL : Lay := { slots := [(2, .ptr 3031 0), (3, .ptr 4031 0), (5, .val tI)], boxes := [(3031, [.val tTs]), (4031, [.val tTs])] }
def L_rSameL_0 : Lay := { slots := [(4, .val .bool)] }
def L_rSameL_1 : Lay := { slots := [] }
def X_rSameL : Exit → St → Option Lay
  | .ret, _ => some L_rSameL_0
  | .exit 0, _ => some L_rSameL_1
  | _, _ => none
abbrev C_rSameL : Code := loopC (bodyOf Try.f46) 0
theorem B_rSameL (i : Int) (a_0 b_0 : List Tb) : loopBodyA (P := P) [] (lpOf []) [] 31 noU (inner C_rSameL) L_rSameL X_rSameL (α := Unit × Unit × Int × List Tb × List Tb × Unit) (fun x => x) (fun x => x) ((), (), i, a_0, b_0, ()) =
  Tree.cond (decide (i < (↑(List.length a_0) : Int))) (Tree.need ((0 : Int) ≤ i ∧ i < (↑(List.length a_0) : Int)) (Tree.need ((0 : Int) ≤ i ∧ i < (↑(List.length b_0) : Int)) (Tree.cond (!((List.getD a_0 (Int.toNat i) ((0 : Int), (0 : Int), (0 : Int), (0 : Int), (0 : Int), (0 : Int), (0 : Int), (0 : Int), (0 : Int))).fst == (List.getD b_0 (Int.toNat i) ((0 : Int), (0 : Int), (0 : Int), (0 : Int), (0 : Int), (0 : Int), (0 : Int), (0 : Int), (0 : Int))).fst && ((List.getD a_0 (Int.toNat i) ((0 : Int), (0 : Int), (0 : Int), (0 : Int), (0 : Int), (0 : Int), (0 : Int), (0 : Int), (0 : Int))).snd.fst == (List.getD b_0 (Int.toNat i) ((0 : Int), (0 : Int), (0 : Int), (0 : Int), (0 : Int), (0 : Int), (0 : Int), (0 : Int), (0 : Int))).snd.fst && ((List.getD a_0 (Int.toNat i) ((0 : Int), (0 : Int), (0 : Int), (0 : Int), (0 : Int), (0 : Int), (0 : Int), (0 : Int), (0 : Int))).snd.snd.fst == (List.getD b_0 (Int.toNat i) ((0 : Int), (0 : Int), (0 : Int), (0 : Int), (0 : Int), (0 : Int), (0 : Int), (0 : Int), (0 : Int))).snd.snd.fst && ((List.getD a_0 (Int.toNat i) ((0 : Int), (0 : Int), (0 : Int), (0 : Int), (0 : Int), (0 : Int), (0 : Int), (0 : Int), (0 : Int))).snd.snd.snd.fst == (List.getD b_0 (Int.toNat i) ((0 : Int), (0 : Int), (0 : Int), (0 : Int), (0 : Int), (0 : Int), (0 : Int), (0 : Int), (0 : Int))).snd.snd.snd.fst && ((List.getD a_0 (Int.toNat i) ((0 : Int), (0 : Int), (0 : Int), (0 : Int), (0 : Int), (0 : Int), (0 : Int), (0 : Int), (0 : Int))).snd.snd.snd.snd.fst == (List.getD b_0 (Int.toNat i) ((0 : Int), (0 : Int), (0 : Int), (0 : Int), (0 : Int), (0 : Int), (0 : Int), (0 : Int), (0 : Int))).snd.snd.snd.snd.fst && ((List.getD a_0 (Int.toNat i) ((0 : Int), (0 : Int), (0 : Int), (0 : Int), (0 : Int), (0 : Int), (0 : Int), (0 : Int), (0 : Int))).snd.snd.snd.snd.snd.fst == (List.getD b_0 (Int.toNat i) ((0 : Int), (0 : Int), (0 : Int), (0 : Int), (0 : Int), (0 : Int), (0 : Int), (0 : Int), (0 : Int))).snd.snd.snd.snd.snd.fst && ((List.getD a_0 (Int.toNat i) ((0 : Int), (0 : Int), (0 : Int), (0 : Int), (0 : Int), (0 : Int), (0 : Int), (0 : Int), (0 : Int))).snd.snd.snd.snd.snd.snd.fst == (List.getD b_0 (Int.toNat i) ((0 : Int), (0 : Int), (0 : Int), (0 : Int), (0 : Int), (0 : Int), (0 : Int), (0 : Int), (0 : Int))).snd.snd.snd.snd.snd.snd.fst && ((List.getD a_0 (Int.toNat i) ((0 : Int), (0 : Int), (0 : Int), (0 : Int), (0 : Int), (0 : Int), (0 : Int), (0 : Int), (0 : Int))).snd.snd.snd.snd.snd.snd.snd.fst == (List.getD b_0 (Int.toNat i) ((0 : Int), (0 : Int), (0 : Int), (0 : Int), (0 : Int), (0 : Int), (0 : Int), (0 : Int), (0 : Int))).snd.snd.snd.snd.snd.snd.snd.fst && ((List.getD a_0 (Int.toNat i) ((0 : Int), (0 : Int), (0 : Int), (0 : Int), (0 : Int), (0 : Int), (0 : Int), (0 : Int), (0 : Int))).snd.snd.snd.snd.snd.snd.snd.snd == (List.getD b_0 (Int.toNat i) ((0 : Int), (0 : Int), (0 : Int), (0 : Int), (0 : Int), (0 : Int), (0 : Int), (0 : Int), (0 : Int))).snd.snd.snd.snd.snd.snd.snd.snd && true)))))))))) (Tree.leaf (Sum.inr (Exit.ret, Lay.st L_rSameL_0 noU (false, PUnit.unit)))) (Tree.leaf (Sum.inl (PUnit.unit, PUnit.unit, IntKind.wrap IntKind.i64 (i + (1 : Int)), a_0, b_0, PUnit.unit)))))) (Tree.leaf (Sum.inr (Exit.exit (0 : Nat), Lay.st L_rSameL_1 noU PUnit.unit))) := by kernel_rfl
def inv_rSameL : Unit × Unit × Int × List Tb × List Tb × Unit → Prop := fun ((), (), i, a_0, b_0, ()) => 0 ≤ i ∧ i ≤ a_0.length ∧ a_0 = b_0 ∧ (a_0.length : Int) < 2 ^ 62
def O_rSameL : Unit × Unit × Int × List Tb × List Tb × Unit → Tree (Exit × St) := fun ((), (), i, a_0, b_0, ()) => (.leaf (.exit 0, L_rSameL_1.st noU ()))
def R_rSameL : LRun := runOf 31 L_rSameL (fun x => x) (inv_rSameL) (O_rSameL)
theorem K_rSameL : LoopOk P [] 31 none noU C_rSameL (R_rSameL) := by
  refine loop_of hm (cx := []) [] (xl := X_rSameL) (α := Unit × Unit × Int × List Tb × List Tb × Unit) (fun x => x) (fun ((), (), i, a_0, b_0, ()) => (a_0.length - i).toNat) (fun _ => rfl) (by kernel_rfl) (by kernel_rfl) ?_ (by kernel_rfl) trivial ?_
  · intro e S L' h
    unfold X_rSameL at h
    split at h <;> first | (cases h; done) | (cases h; kernel_rfl) | (rcases bif_some h with h | h <;> cases h <;> kernel_rfl)
  · rintro ⟨⟨⟩, ⟨⟩, i, a_0, b_0, ⟨⟩⟩ hinv Q hQ
    refine hold_of_eq (B_rSameL i a_0 b_0) ?_
    obtain ⟨h0, h1, rfl, h2⟩ := hinv
    rw [W_id (n := i + 1) (by omega) (by omega)]
    refine ⟨fun c1 => ?_, fun c1 => hQ⟩
    have c1 := of_decide_eq_true c1
    exact ⟨⟨h0, c1⟩, ⟨h0, c1⟩, fun c2 => absurd c2 (by simp), fun c2 => ⟨⟨⟨by omega, by omega, rfl, h2⟩, by show ((a_0.length : Int) - (i + 1)).toNat < ((a_0.length : Int) - i).toNat; omega⟩, hQ⟩⟩
theorem T_rSame (a_0 b_0 : List Tb) : fnTree (P := P) [] (lpOf [(0, R_rSameL)]) Try.f46 (encL 0 [.agg tTs, .agg tTs] (a_0, b_0, ())) =
  Tree.cond ((↑(List.length a_0) : Int) != (↑(List.length b_0) : Int)) (Tree.leaf (SV.bool false)) (Tree.need (inv_rSameL ((), (), (0 : Int), a_0, b_0, ())) (Tree.leaf (SV.bool true))) := by kernel_rfl
def c_rSame : PC P := PC.of (α := List Tb × List Tb × Unit) 46 [.agg tTs, .agg tTs] (fun x => x) (fun x => x) (fun _ => rfl)
  (fun x => some (x.1 = x.2.1 ∧ (x.1.length : Int) < 2 ^ 62))
  (fun x => .bool true) (by kernel_rfl) (by
    rintro ⟨a_0, b_0, ⟨⟩⟩ hp
    refine fn_of hm (by kernel_rfl) (by kernel_rfl) (T_rSame a_0 b_0) ⟨K_rSameL, trivial⟩ ?_
    try dsimp only at hp
    try dsimp only
    obtain ⟨rfl, h1⟩ : a_0 = b_0 ∧ (a_0.length : Int) < 2 ^ 62 := hp
    exact ⟨fun c => absurd c (by simp), fun _ => ⟨⟨by decide, by omega, rfl, h1⟩, rfl⟩⟩)
theorem T_PipeChecks (l_0 : List Tb) (t_0 t_1 t_2 t_3 t_4 t_5 t_6 t_7 t_8 m a b : Int) : fnTree (P := P) [c_OwnString.gc, c_TCheck.gc, c_rTCheck.gc, c_TLength.gc, c_rTLength.gc, c_Weight.gc, c_rWeight.gc, c_Wet.gc, c_rWet.gc, c_TJoints.gc, c_rTJoints.gc, c_SameLongs.gc, c_Near.gc, c_rNear.gc, c_rSame.gc, c_awake.gc] (lpOf []) Try.f9 (encL 0 [.agg tTs, .agg tT, .val tI, .val tI, .val tI] (l_0, (t_0, (t_1, (t_2, (t_3, (t_4, (t_5, (t_6, (t_7, t_8)))))))), m, a, b, ())) =
  Tree.cond (decide ((↑(List.length l_0) : Int) > (10 : Int))) (Tree.leaf (SV.bool true)) (Tree.need ((↑(List.length l_0) : Int) < (1000000 : Int)) (Tree.need ((↑(List.length l_0) : Int) < (2 : Int) ^ (62 : Nat)) (Tree.cond (checkT l_0 != checkT l_0) (Tree.leaf (SV.bool false)) (Tree.need ((↑(List.length l_0) : Int) < (2 : Int) ^ (62 : Nat)) (Tree.cond (lenT l_0 != lenT l_0) (Tree.leaf (SV.bool false)) (Tree.need ((↑(List.length l_0) : Int) < (2 : Int) ^ (62 : Nat)) (Tree.cond (wghS l_0 m != wghS l_0 m) (Tree.leaf (SV.bool false)) (Tree.cond (wetS (t_0, t_1, t_2, t_3, t_4, t_5, t_6, t_7, t_8) m != wetS (t_0, t_1, t_2, t_3, t_4, t_5, t_6, t_7, t_8) m) (Tree.leaf (SV.bool false)) (Tree.need ((↑(List.length l_0) : Int) < (2 : Int) ^ (62 : Nat)) (Tree.need (jntT l_0 = jntT l_0 ∧ (↑(List.length (jntT l_0)) : Int) < (2 : Int) ^ (62 : Nat)) (Tree.cond true (Tree.need ((↑(List.length l_0) : Int) < (2 : Int) ^ (62 : Nat)) (Tree.cond (nearS l_0 a b == nearS l_0 a b) (Tree.need (l_0 = l_0 ∧ (↑(List.length l_0) : Int) < (2 : Int) ^ (62 : Nat)) (Tree.cond true (Tree.leaf (SV.bool true)) (Tree.leaf (SV.bool false)))) (Tree.leaf (SV.bool false)))) (Tree.leaf (SV.bool false))))))))))))) := by kernel_rfl
def c_PipeChecks : PC P := PC.of (α := List Tb × Tb × Int × Int × Int × Unit) 9 [.agg tTs, .agg tT, .val tI, .val tI, .val tI] (fun x => x) (fun x => x) (fun _ => rfl)
  (fun _ => none)
  (fun x => .bool true) (by kernel_rfl) (by
    rintro ⟨l_0, ⟨t_0, ⟨t_1, ⟨t_2, ⟨t_3, ⟨t_4, ⟨t_5, ⟨t_6, ⟨t_7, t_8⟩⟩⟩⟩⟩⟩⟩⟩, m, a, b, ⟨⟩⟩ hp
    refine fn_of hm (by kernel_rfl) (by kernel_rfl) (T_PipeChecks l_0 t_0 t_1 t_2 t_3 t_4 t_5 t_6 t_7 t_8 m a b) trivial ?_
    try dsimp only at hp
    try dsimp only
    have e1 : ∀ z : Int, (z != z) = false := fun z => by simp
    have e2 : ∀ z : Bool, (z == z) = true := fun z => by simp
    rw [e1, e1, e1, e1, e2]
    have hj := jntT_len l_0
    refine ⟨fun _ => rfl, fun c1 => ?_⟩
    have c1 := of_decide_eq_false c1
    have hl : (l_0.length : Int) < 2 ^ 62 := by omega
    exact ⟨by omega, hl, fun h => (by cases h), fun _ => ⟨hl, fun h => (by cases h), fun _ => ⟨hl, fun h => (by cases h), fun _ => ⟨fun h => (by cases h), fun _ => ⟨hl, ⟨rfl, by omega⟩, fun _ => ⟨hl, fun _ => ⟨⟨rfl, hl⟩, fun _ => rfl, fun h => (by cases h)⟩, fun h => (by cases h)⟩, fun h => (by cases h)⟩⟩⟩⟩⟩)
theorem tubeS_few {ks : List K2} {L : Int} (hd : Down ks L) (i : Int) {top to : Int} (h0 : 0 ≤ top) (hL : to ≤ L) (ht : top ≤ to) : ((tubeS ks i top to).length : Int) ≤ to - top := tubeS_len hd i h0 _ to (Nat.le_refl _) hL ht
theorem pcsL_len {ks : List K2} {L : Int} (hd : Down ks L) (l : List Tb) : AllF l → ∀ i to : Int, sumT l ≤ to → to ≤ L → ((pcsL ks i to l).length : Int) ≤ to := by
  induction l with
  | nil => intro _ i to h _; simp [pcsL, sumT] at *; exact h
  | cons t r ih =>
    intro h i to h1 h2
    have hp := (h t (by simp)).prod
    have hr := (sumT_rng r fun u hu => h u (by simp [hu])).1
    rw [sumT] at h1
    have h3 := ih (fun u hu => h u (by simp [hu])) (i + 1) (to - t.1 * t.2.1) (by omega) (by omega)
    have h4 := tubeS_few hd i (show 0 ≤ to - t.1 * t.2.1 by omega) h2 (by omega)
    rw [pcsL, List.length_append]
    omega
theorem pcsS_len (l : List Tb) (p : Pth) : ((pcsS l p).length : Int) < 2 ^ 62 := by
  unfold pcsS
  split
  · rename_i h
    obtain ⟨h1, h2, h3⟩ := fitsS_ok h
    obtain ⟨_, _, h4, h5⟩ := checkT_ok h1
    have := pcsL_len (fits_down h) l h4 0 (sumT l) (Int.le_refl _) h3
    omega
  · decide
def L_PipePiecesL : Lay := { slots := [(11, .row 36 tTs), (12, .row 33 (.pair tV tVs)), (13, .val tI)] }
def L_PipePiecesL_0 : Lay := { slots := [(6, .val .bool)] }
def L_PipePiecesL_1 : Lay := { slots := [] }
def X_PipePiecesL : Exit → St → Option Lay
  | .ret, _ => some L_PipePiecesL_0
  | .exit 0, _ => some L_PipePiecesL_1
  | _, _ => none
abbrev C_PipePiecesL : Code := loopC (bodyOf Try.f7) 0
theorem B_PipePiecesL (ss : List (List Tb)) (pp : List (V × List V)) (k : Int) : loopBodyA (P := P) [c_Fits.gc, c_rFits.gc, c_Pieces.gc, c_rPieces.gc, c_SamePieces.gc] (lpOf []) [] 80 noU (inner C_PipePiecesL) L_PipePiecesL X_PipePiecesL (α := List (List Tb) × List (V × List V) × Int × Unit) (fun x => x) (fun x => x) (ss, pp, k, ()) =
  Tree.cond (decide (k < (2 : Int))) (Tree.need ((0 : Int) ≤ k ∧ k < (↑(List.length ss) : Int)) (Tree.need (Int.toNat k < List.length ss) (Tree.need ((0 : Int) ≤ k ∧ k < (↑(List.length pp) : Int)) (Tree.need (Int.toNat k < List.length pp) (Tree.need ((↑(List.length (List.getD ss (Int.toNat k) [])) : Int) < (2 : Int) ^ (62 : Nat)) (Tree.need ((0 : Int) ≤ k ∧ k < (↑(List.length ss) : Int)) (Tree.need (Int.toNat k < List.length ss) (Tree.need ((0 : Int) ≤ k ∧ k < (↑(List.length pp) : Int)) (Tree.need (Int.toNat k < List.length pp) (Tree.cond (fitsS (List.getD ss (Int.toNat k) []) (List.getD pp (Int.toNat k) (((0 : Int), (0 : Int), (0 : Int)), [])) != fitsS (List.getD ss (Int.toNat k) []) (List.getD pp (Int.toNat k) (((0 : Int), (0 : Int), (0 : Int)), []))) (Tree.leaf (Sum.inr (Exit.ret, Lay.st L_PipePiecesL_0 noU (false, PUnit.unit)))) (Tree.need ((0 : Int) ≤ k ∧ k < (↑(List.length ss) : Int)) (Tree.need (Int.toNat k < List.length ss) (Tree.need ((0 : Int) ≤ k ∧ k < (↑(List.length pp) : Int)) (Tree.need (Int.toNat k < List.length pp) (Tree.need ((↑(List.length (List.getD ss (Int.toNat k) [])) : Int) < (2 : Int) ^ (62 : Nat)) (Tree.need ((0 : Int) ≤ k ∧ k < (↑(List.length ss) : Int)) (Tree.need (Int.toNat k < List.length ss) (Tree.need ((0 : Int) ≤ k ∧ k < (↑(List.length pp) : Int)) (Tree.need (Int.toNat k < List.length pp) (Tree.need (pcsS (List.getD ss (Int.toNat k) []) (List.getD pp (Int.toNat k) (((0 : Int), (0 : Int), (0 : Int)), [])) = pcsS (List.getD ss (Int.toNat k) []) (List.getD pp (Int.toNat k) (((0 : Int), (0 : Int), (0 : Int)), [])) ∧ (↑(List.length (pcsS (List.getD ss (Int.toNat k) []) (List.getD pp (Int.toNat k) (((0 : Int), (0 : Int), (0 : Int)), [])))) : Int) < (2 : Int) ^ (62 : Nat)) (Tree.cond false (Tree.leaf (Sum.inr (Exit.ret, Lay.st L_PipePiecesL_0 noU (false, PUnit.unit)))) (Tree.leaf (Sum.inl (ss, pp, IntKind.wrap IntKind.i64 (k + (1 : Int)), PUnit.unit)))))))))))))))))))))))) (Tree.leaf (Sum.inr (Exit.exit (0 : Nat), Lay.st L_PipePiecesL_1 noU PUnit.unit))) := by kernel_rfl
def inv_PipePiecesL : List (List Tb) × List (V × List V) × Int × Unit → Prop := fun (ss, pp, k, ()) => 0 ≤ k ∧ k ≤ 2 ∧ ss.length = 2 ∧ pp.length = 2 ∧ ∀ x ∈ ss, (x.length : Int) < 2 ^ 62
def O_PipePiecesL : List (List Tb) × List (V × List V) × Int × Unit → Tree (Exit × St) := fun (ss, pp, k, ()) => (.leaf (.exit 0, L_PipePiecesL_1.st noU ()))
def R_PipePiecesL : LRun := runOf 80 L_PipePiecesL (fun x => x) (inv_PipePiecesL) (O_PipePiecesL)
theorem K_PipePiecesL : LoopOk P [] 80 none noU C_PipePiecesL (R_PipePiecesL) := by
  refine loop_of hm (cx := [c_Fits.gc, c_rFits.gc, c_Pieces.gc, c_rPieces.gc, c_SamePieces.gc]) [] (xl := X_PipePiecesL) (α := List (List Tb) × List (V × List V) × Int × Unit) (fun x => x) (fun (ss, pp, k, ()) => (2 - k).toNat) (fun _ => rfl) (by kernel_rfl) (by kernel_rfl) ?_ (by kernel_rfl) trivial ?_
  · intro e S L' h
    unfold X_PipePiecesL at h
    split at h <;> first | (cases h; done) | (cases h; kernel_rfl) | (rcases bif_some h with h | h <;> cases h <;> kernel_rfl)
  · rintro ⟨ss, pp, k, ⟨⟩⟩ hinv Q hQ
    refine hold_of_eq (B_PipePiecesL ss pp k) ?_
    obtain ⟨h0, h1, h2, h3, h4⟩ := hinv
    rw [W_id (n := k + 1) (by omega) (by omega)]
    refine ⟨fun c1 => ?_, fun c1 => hQ⟩
    have c1 := of_decide_eq_true c1
    have i1 : 0 ≤ k ∧ k < (ss.length : Int) := by omega
    have i2 : k.toNat < ss.length := by omega
    have i3 : 0 ≤ k ∧ k < (pp.length : Int) := by omega
    have i4 : k.toNat < pp.length := by omega
    have i5 : ((ss.getD k.toNat []).length : Int) < 2 ^ 62 := h4 _ (mem_getD h0 (by omega))
    have e1 : ∀ z : Int, (z != z) = false := fun z => by simp
    rw [e1]
    exact ⟨i1, i2, i3, i4, i5, i1, i2, i3, i4, fun h => (by cases h), fun _ => ⟨i1, i2, i3, i4, i5, i1, i2, i3, i4, ⟨rfl, pcsS_len _ _⟩, fun h => (by cases h), fun _ => ⟨⟨⟨by omega, by omega, h2, h3, h4⟩, by show (2 - (k + 1)).toNat < (2 - k).toNat; omega⟩, hQ⟩⟩⟩
theorem T_PipePieces (l_0 : List Tb) (p_0 p_1 p_2 : Int) (p_3 : List V) (nums : List Int) : fnTree (P := P) [c_big.gc, c_awake.gc, c_NewRing.gc, c_kPath.gc, c_kStr.gc] (lpOf [(0, R_PipePiecesL)]) Try.f7 (encL 0 [.agg tTs, .agg (.pair tV tVs), .val tIs] (l_0, ((p_0, (p_1, p_2)), p_3), nums, ())) =
  Tree.cond (decide ((↑(List.length l_0) : Int) > (10 : Int)) || decide ((↑(List.length p_3) : Int) > (24 : Int))) (Tree.leaf (SV.bool true)) (Tree.need (pr_kPath ((), (6 : Int), nums, (0 : Int), ())) (Tree.need ((0 : Int) ≤ (V_kPath ((), (6 : Int), nums, (0 : Int), ())).snd ∧ (V_kPath ((), (6 : Int), nums, (0 : Int), ())).snd ≤ (400000000 : Int)) (Tree.need (inv_PipePiecesL ([l_0, (strK nums (lenS (V_kPath ((), (6 : Int), nums, (0 : Int), ())).fst) (Int.toNat ((1 : Int) + nextS nums (V_kPath ((), (6 : Int), nums, (0 : Int), ())).snd (4 : Int))) ((V_kPath ((), (6 : Int), nums, (0 : Int), ())).snd + (1 : Int)) []).fst], [((p_0, p_1, p_2), p_3), (V_kPath ((), (6 : Int), nums, (0 : Int), ())).fst], (0 : Int), ())) (Tree.leaf (SV.bool true))))) := by kernel_rfl
def c_PipePieces : PC P := PC.of (α := List Tb × (V × List V) × List Int × Unit) 7 [.agg tTs, .agg (.pair tV tVs), .val tIs] (fun x => x) (fun x => x) (fun _ => rfl)
  (fun _ => none)
  (fun x => .bool true) (by kernel_rfl) (by
    rintro ⟨l_0, ⟨⟨p_0, ⟨p_1, p_2⟩⟩, p_3⟩, nums, ⟨⟩⟩ hp
    refine fn_of hm (by kernel_rfl) (by kernel_rfl) (T_PipePieces l_0 p_0 p_1 p_2 p_3 nums) ⟨K_PipePiecesL, trivial⟩ ?_
    try dsimp only at hp
    try dsimp only
    have hpr : pr_kPath ((), (6 : Int), nums, (0 : Int), ()) := ⟨by decide, by decide, by decide, by decide⟩
    have hS := S_kPath _ hpr
    generalize V_kPath ((), (6 : Int), nums, (0 : Int), ()) = b at *
    obtain ⟨⟨⟨x, y, z⟩, pl⟩, k1⟩ := b
    obtain ⟨hc, h1, h2, _⟩ := hS
    dsimp only at hc h1 h2 ⊢
    have n0 := nextS_rng (l := nums) (k := k1) (n := 4) (by omega) (by decide)
    have hstr := strK_ok (l := nums) (n := lenS ((x, y, z), pl)) (1 + nextS nums k1 4).toNat (k1 + 1) [] (by omega) ⟨fun t ht => (by cases ht), lenS_nn _, by decide, fun t ht => (by cases ht)⟩
    generalize strK nums (lenS ((x, y, z), pl)) (1 + nextS nums k1 4).toNat (k1 + 1) [] = st at *
    obtain ⟨s, k2⟩ := st
    obtain ⟨_, b, _, _⟩ := hstr
    dsimp only at b ⊢
    rw [List.length_nil] at b
    refine ⟨fun _ => rfl, fun d => ⟨hpr, ⟨by omega, by omega⟩, ⟨by decide, by decide, rfl, rfl, ?_⟩, rfl⟩⟩
    simp only [Bool.or_eq_false_iff, decide_eq_false_iff_not] at d
    intro w hw
    rcases List.mem_cons.1 hw with rfl | hw
    · omega
    · rw [List.mem_singleton.1 hw]; omega)
end
end Go.MP
