/- Rigs: the reference's states and moves: as the program's. -/
import Derived.Test.YtdoobpeacbcohaaMxH
namespace Go.MR
open Go Go.Sx Go.Proofs
set_option linter.unusedVariables false
set_option linter.unusedSimpArgs false
noncomputable section
theorem getD_still {s:List Int} {i:Nat} (h:i < s.length):(stillS s).getD i (0,0) = (s.getD i 0,s.getD i 0):=by
  unfold stillS
  rw [List.getD_eq_getElem?_getD,List.getD_eq_getElem?_getD,List.getElem?_map,List.getElem?_eq_getElem h]
  rfl
theorem getD_wayL:∀ {s m:List Int} {i:Nat},i < s.length → i < m.length → (wayL s m).getD i (0,0) = (s.getD i 0,IntKind.i64.wrap (s.getD i 0 + m.getD i 0)) ∧ (movedS s m).getD i 0 = IntKind.i64.wrap (s.getD i 0 + m.getD i 0)
  | [],_,i,h,_ => by simp at h
  | _ :: _,[],i,_,h => by simp at h
  | p :: s,x :: m,0,_,_ => ⟨rfl,rfl⟩
  | p :: s,x :: m,i + 1,h1,h2 => getD_wayL (s:=s) (m:=m) (by simpa using h1) (by simpa using h2)
theorem movedS_len:∀ {s m:List Int},s.length ≤ m.length → (movedS s m).length = s.length
  | [],m,_ => by rw [movedS_nil]
  | p :: s,[],h => by simp at h
  | p :: s,x :: m,h => by rw [movedS,List.length_cons,List.length_cons,movedS_len (by simpa using h)]
theorem place_ne' {ps:List Int} {i:Nat} (h:ps.any badP = false) (hi:i < ps.length):2 ≤ ps.getD i 0 ∧ ps.getD i 0 ≤ 8:=by
  have h1:=getD_mem (d:=(0:Int)) hi
  have h2:badP (ps.getD i 0) = false:=by
    cases hb:badP (ps.getD i 0) with
    | false => rfl
    | true => rw [List.any_eq_true.2 ⟨_,h1,hb⟩] at h; cases h
  unfold badP wi at h2
  simp only [Bool.not_eq_false',Bool.and_eq_true,decide_eq_true_eq] at h2
  exact h2
theorem inR_moved:∀ {s m ps:List Int},ps.any badP = false → s.length = ps.length → m.length = ps.length → inR (movedS s m) ps = wayOk s m ps
  | [],m,ps,_,_,_ => by rw [movedS_nil,wayOk_nil,inR_nil]
  | _ :: _,[],ps,_,h,h2 => by rw [← h] at h2; simp at h2
  | _ :: _,_ :: _,[],_,h,_ => by simp at h
  | p :: s,x :: m,q :: ps,hb,h1,h2 => by
    have hq:=place_ne' (i:=0) hb (by simp)
    rw [show (q :: ps).getD 0 0 = q from rfl] at hq
    rw [List.any_cons,Bool.or_eq_false_iff] at hb
    rw [movedS,inR,wayOk,inR_moved hb.2 (by simpa using h1) (by simpa using h2)]
    unfold wi
    rw [W_id (n:=q - 1) (by omega) (by omega)]
    have e:decide (IntKind.i64.wrap (p + x) < q) = decide (IntKind.i64.wrap (p + x) ≤ q - 1):=by
      by_cases c:IntKind.i64.wrap (p + x) < q
      · rw [decide_eq_true c,decide_eq_true (by omega)]
      · rw [decide_eq_false c,decide_eq_false (by omega)]
    rw [e]
end
end Go.MR
