/- The law PathKnown: the examples of the chapter. -/
import Derived.Test.YtnlflnbbgklalaaMpS
import Derived.Test.YtnlflnbbgklalaaMpAa
import Derived.Test.YtnlflnbbgklalaaMpJ
namespace Go.MP
open Go Go.Sx Go.Proofs
set_option linter.unusedVariables false
set_option linter.unusedSimpArgs false
noncomputable section

/-- A tree whose conditions can be decided. -/
def collapse {β : Type} : Tree β → Tree β
  | .leaf b => .leaf b
  | .cond c t e => bif c then collapse t else collapse e
  | .need p t => .need p (collapse t)
  | .fail n => .fail n
theorem collapse_holds {β : Type} {Q : β → Prop} : ∀ {t : Tree β}, (collapse t).holds Q → t.holds Q
  | .leaf b, h => h
  | .cond true t e, h => ⟨fun _ => collapse_holds (t := t) h, fun k => (by cases k)⟩
  | .cond false t e, h => ⟨fun k => (by cases k), fun _ => collapse_holds (t := e) h⟩
  | .need p t, h => ⟨h.1, collapse_holds h.2⟩
  | .fail n, h => h
theorem fn_closed {cx : List (GC P)} {lps : List (Nat × LRun)} {f : FuncId} {fn : Func} (hf : P.funcs[f]? = some fn) {args : List SV} {res : SV} (hn : nodupB ((loopsOf 0 (bodyOf fn)).map (·.1)) = true)
    {T : Tree SV} (ht : collapse (fnTree cx (lpOf lps) fn args) = T) (hl : AllK P [] fn.ntmps none noU (bodyOf fn) lps) (h : T.holds fun s => s = res) : FnOk P f args res :=
  fn_of hm hf hn rfl hl (collapse_holds (by rw [ht]; exact h))

def qP : Pth := ((10000, 0, 0), [(0, 0, 100000)])
theorem T_q (_ : Unit) : fnTree (P := P) [] (lpOf []) Try.f79 (encL 0 [] ()) =
  Tree.leaf (SV.agg [SV.int IntKind.i64 (10000 : Int), SV.int IntKind.i64 (0 : Int), SV.int IntKind.i64 (0 : Int), SV.sl (Ty.pair (Ty.int IntKind.i64) (Ty.pair (Ty.int IntKind.i64) (Ty.int IntKind.i64))) [((0 : Int), (0 : Int), (100000 : Int))]]) := by kernel_rfl

def c_q : PC P := PC.of (α := Unit) 79 [] (fun x => x) (fun x => x) (fun _ => rfl)
  (fun _ => none)
  (fun x => .agg [.int .i64 qP.1.1, .int .i64 qP.1.2.1, .int .i64 qP.1.2.2, .sl tV qP.2]) (by kernel_rfl) (by
    rintro ⟨⟩ hp
    refine fn_of hm (by kernel_rfl) (by kernel_rfl) (T_q ()) trivial ?_
    exact rfl)

def sPer : Nat → List V → List V
  | 0, l => l
  | n + 1, l => sPer n (l ++ [(100, 0, 0)])
theorem sPer_len : ∀ (n : Nat) (l : List V), (sPer n l).length = l.length + n
  | 0, l => rfl
  | n + 1, l => by rw [sPer, sPer_len n]; simp; omega
def sS (id legs : Int) : List Src := [(id, sPer legs.toNat [])]
def L_sL : Lay := { slots := [(1, .val tI), (5, .ptr 6022 0), (6, .val tI)], boxes := [(6022, [.val tI, .row 23 tV])] }
def L_sL_0 : Lay := { slots := [(5, .ptr 6022 0)], boxes := [(6022, [.val tI, .row 23 tV])] }
def X_sL : Exit → Option Lay
  | .exit 0 => some L_sL_0
  | _ => none
abbrev C_sL : Code := loopC (bodyOf Try.f78) 0
theorem B_sL (legs i id2 : Int) (l : List V) : loopBodyA (P := P) [] (lpOf []) [] 22 noU (inner C_sL) L_sL X_sL (α := Int × Unit × Int × Int × List V × Unit) (fun x => x) (fun x => x) (legs, (), i, id2, l, ()) =
  Tree.cond (decide (i < legs)) (Tree.need ((List.length l + List.length [((100 : Int), (0 : Int), (0 : Int))]) * (24 : Nat) ≤ (140737488355328 : Nat)) (Tree.leaf (Sum.inl (legs, PUnit.unit, IntKind.wrap IntKind.i64 (i + (1 : Int)), id2, l ++ [((100 : Int), (0 : Int), (0 : Int))], PUnit.unit)))) (Tree.leaf (Sum.inr (Exit.exit (0 : Nat), Lay.st L_sL_0 noU (PUnit.unit, id2, l, PUnit.unit)))) := by kernel_rfl

def inv_sL : Int × Unit × Int × Int × List V × Unit → Prop := fun (legs, (), i, id2, l, ()) => 0 ≤ i ∧ i ≤ legs ∧ legs ≤ 1000 ∧ (l.length : Int) = i
def O_sL : Int × Unit × Int × Int × List V × Unit → Tree (Exit × St) := fun (legs, (), i, id2, l, ()) => (.leaf (.exit 0, L_sL_0.st noU ((), id2, (sPer (legs - i).toNat l), ())))
def R_sL : LRun := runOf 22 L_sL (fun x => x) (inv_sL) (O_sL)
theorem K_sL : LoopOk P [] 22 none noU C_sL (R_sL) := by
  refine loop_of hm (cx := []) [] (xl := X_sL) (α := Int × Unit × Int × Int × List V × Unit) (fun x => x) (fun (legs, (), i, id2, l, ()) => (legs - i).toNat) (fun _ => rfl) (by kernel_rfl) (by kernel_rfl) ?_ (by kernel_rfl) trivial ?_
  · intro e L' h
    unfold X_sL at h
    split at h <;> cases h <;> kernel_rfl
  · rintro ⟨legs, ⟨⟩, i, id2, l, ⟨⟩⟩ hinv Q hQ
    refine hold_of_eq (B_sL legs i id2 l) ?_

    obtain ⟨h1, h2, h3, h4⟩ := hinv
    rw [W_id (n := i + 1) (by omega) (by omega)]
    unfold O_sL at hQ
    dsimp only at hQ
    refine ⟨fun c1 => ?_, fun c1 => ?_⟩
    · have c := of_decide_eq_true c1
      rw [show (legs - i).toNat = (legs - (i + 1)).toNat + 1 by omega, sPer] at hQ
      refine ⟨by simp only [List.length_cons, List.length_nil]; omega, ⟨⟨by omega, by omega, h3, by rw [List.length_append, List.length_singleton]; omega⟩, by show (legs - (i + 1)).toNat < (legs - i).toNat; omega⟩, hQ⟩
    · have c := of_decide_eq_false c1
      rw [show (legs - i).toNat = 0 by omega, sPer] at hQ
      exact hQ
theorem T_s (id legs : Int) : fnTree (P := P) [] (lpOf [(0, R_sL)]) Try.f78 (encL 0 [.val tI, .val tI] (id, legs, ())) =
  Tree.need (inv_sL (legs, (), (0 : Int), id, [], ())) (Tree.leaf (SV.sl (Ty.pair (Ty.int IntKind.i64) (Ty.sl (Ty.pair (Ty.int IntKind.i64) (Ty.pair (Ty.int IntKind.i64) (Ty.int IntKind.i64))))) [(id, sPer (Int.toNat (legs - (0 : Int))) [])])) := by kernel_rfl

def c_s : PC P := PC.of (α := Int × Int × Unit) 78 [.val tI, .val tI] (fun x => x) (fun x => x) (fun _ => rfl)
  (fun x => some (0 ≤ x.2.1 ∧ x.2.1 ≤ 1000))
  (fun x => .sl tSrc (sS x.1 x.2.1)) (by kernel_rfl) (by
    rintro ⟨id, legs, ⟨⟩⟩ hp
    refine fn_of hm (by kernel_rfl) (by kernel_rfl) (T_s id legs) ⟨K_sL, trivial⟩ ?_

    try dsimp only at hp
    try dsimp only
    obtain ⟨h1, h2⟩ := hp
    rw [show legs - 0 = legs by omega]
    exact ⟨⟨by decide, h1, h2, rfl⟩, rfl⟩)
def goalP : Goal := ([(0, 0, 1000), (0, 600, 800)], 8, 3, (1, 5), ((0, 1800, 4400), (0, 1800, 4400)))
theorem T_goalE (_ : Unit) : fnTree (P := P) [] (lpOf []) Try.f80 (encL 0 [] ()) =
  Tree.leaf (SV.agg [SV.sl (Ty.pair (Ty.int IntKind.i64) (Ty.pair (Ty.int IntKind.i64) (Ty.int IntKind.i64))) [((0 : Int), (0 : Int), (1000 : Int)), ((0 : Int), (600 : Int), (800 : Int))], SV.int IntKind.i64 (8 : Int), SV.int IntKind.i64 (3 : Int), SV.int IntKind.i64 (1 : Int), SV.int IntKind.i64 (5 : Int), SV.int IntKind.i64 (0 : Int), SV.int IntKind.i64 (1800 : Int), SV.int IntKind.i64 (4400 : Int), SV.int IntKind.i64 (0 : Int), SV.int IntKind.i64 (1800 : Int), SV.int IntKind.i64 (4400 : Int)]) := by kernel_rfl

def c_goalE : PC P := PC.of (α := Unit) 80 [] (fun x => x) (fun x => x) (fun _ => rfl)
  (fun _ => none)
  (fun x => .agg (svG goalP)) (by kernel_rfl) (by
    rintro ⟨⟩ hp
    refine fn_of hm (by kernel_rfl) (by kernel_rfl) (T_goalE ()) trivial ?_
    exact rfl)

/-- The search for the gap, by a count. -/
def searchF (p : Int → Bool) : Nat → Int → Int → Int
  | 0, i, _ => i
  | n + 1, i, j => bif decide (i < j) then (bif p ((i + j) / 2) then searchF p n i ((i + j) / 2) else searchF p n ((i + j) / 2 + 1) j) else i
theorem searchF_eq (p : Int → Bool) : ∀ (n : Nat) (i j : Int), (j - i).toNat ≤ n → searchR p i j = searchF p n i j
  | 0, i, j, h => by rw [searchR, if_neg (by omega)]; rfl
  | n + 1, i, j, h => by
    rw [searchR, searchF]
    by_cases hij : i < j
    · rw [if_pos hij, decide_eq_true hij, cond_true]
      cases hp : p ((i + j) / 2)
      · rw [if_neg (by decide), cond_false]
        exact searchF_eq p n _ _ (by omega)
      · rw [if_pos rfl, cond_true]
        exact searchF_eq p n _ _ (by omega)
    · rw [if_neg hij, decide_eq_false hij]; rfl
def gapF (p : Pth) (l : List Src) (p' : Pth) (l' : List Src) : Int × Int :=
  if bothS p l p' l' ≠ 0 then (0, bothS p l p' l') else (searchF (fun m => !clearW p.2 l (jointsS p) p'.2 l' (jointsS p') (m + 1) 0) 4000 0 4000, 0)
theorem gapF_eq (p : Pth) (l : List Src) (p' : Pth) (l' : List Src) : gapS p l p' l' = gapF p l p' l' := by
  unfold gapS gapF
  rw [searchF_eq _ 4000 0 4000 (by decide)]
def c_GapF : PC P := PC.of (α := Pth × List Src × Pth × List Src × Unit) 73 [.agg tPath, .val tSrcs, .agg tPath, .val tSrcs] (fun x => x) (fun x => x) (fun _ => rfl)
  (fun _ => none) (fun x => .tup [.int .i64 (gapF x.1 x.2.1 x.2.2.1 x.2.2.2.1).1, .int .i64 (gapF x.1 x.2.1 x.2.2.1 x.2.2.2.1).2]) (by kernel_rfl) (fun a h => by
    rw [← gapF_eq]
    exact c_Gap.ok a h)

theorem gapE : gapF pP (sS 1 2) qP (sS 2 1) = (4000, 0) := by kernel_rfl
theorem planE : planS (0, 0, 0) (0, 0, 1) goalP = (((0, 0, 0), [(0, 0, 2000), (0, 1800, 2400)]), 0) := by kernel_rfl

theorem T_PathKnown (_ : Unit) : collapse (fnTree (P := P) [c_awake.gc, c_Joints.gc, c_p.gc, c_Vert.gc, c_SameVecs.gc, c_SameKnots.gc, c_At.gc, c_Check.gc, c_Turn.gc, c_Steepest.gc, c_Where.gc, c_Actual.gc, c_s.gc, c_q.gc, c_Known.gc, c_GapF.gc, c_Plan.gc, c_goalE.gc, c_SamePath.gc] (lpOf []) Try.f17 (encL 0 [] ())) =
  Tree.need ((↑(List.length (jointsS (((0 : Int), (0 : Int), (0 : Int)), pP.snd))) : Int) < (2 : Int) ^ (62 : Nat)) (Tree.need ((↑(List.length (vertS (((0 : Int), (0 : Int), (0 : Int)), pP.snd))) : Int) < (2 : Int) ^ (62 : Nat)) (Tree.need ((0 : Int) ≤ (2 : Int) ∧ (2 : Int) ≤ (1000 : Int)) (Tree.need ((0 : Int) ≤ (2 : Int) ∧ (2 : Int) ≤ (1000 : Int)) (Tree.need ((0 : Int) ≤ (2 : Int) ∧ (2 : Int) ≤ (1000 : Int)) (Tree.need ((0 : Int) ≤ (1 : Int) ∧ (1 : Int) ≤ (1000 : Int)) (Tree.need ((0 : Int) ≤ (2 : Int) ∧ (2 : Int) ≤ (1000 : Int)) (Tree.need ((0 : Int) ≤ (1 : Int) ∧ (1 : Int) ≤ (1000 : Int)) (Tree.need ((0 : Int) ≤ (2 : Int) ∧ (2 : Int) ≤ (1000 : Int)) (Tree.need ((0 : Int) ≤ (1 : Int) ∧ (1 : Int) ≤ (1000 : Int)) (Tree.need ((0 : Int) ≤ (1 : Int) ∧ (1 : Int) ≤ (1000 : Int)) (Tree.need ((0 : Int) ≤ (1 : Int) ∧ (1 : Int) ≤ (1000 : Int)) (Tree.need ((0 : Int) ≤ (1 : Int) ∧ (1 : Int) ≤ (1000 : Int)) (Tree.need ((0 : Int) ≤ (1 : Int) ∧ (1 : Int) ≤ (1000 : Int)) (Tree.need ((↑(List.length (planS ((0 : Int), (0 : Int), (0 : Int)) ((0 : Int), (0 : Int), (1 : Int)) goalP).fst.snd) : Int) < (2 : Int) ^ (62 : Nat)) (Tree.leaf (SV.bool true)))))))))))))))) := by kernel_rfl

def c_PathKnown : PC P := PC.of (α := Unit) 17 [] (fun x => x) (fun x => x) (fun _ => rfl) (fun _ => none) (fun _ => .bool true) (by kernel_rfl) (by
    rintro ⟨⟩ hp
    refine fn_closed (by kernel_rfl) (by kernel_rfl) (T_PathKnown ()) trivial ?_
    exact ⟨by decide +kernel, by decide +kernel, by decide, by decide, by decide, by decide, by decide, by decide, by decide, by decide, by decide, by decide, by decide, by decide, by decide +kernel, rfl⟩)

end
end Go.MP
