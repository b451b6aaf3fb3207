/- Tops: a site of one element, by entries that install, test and fail it. -/
import Derived.Test.YtdoobpeacbcohaaGreatMnE
namespace Go.MB
open Go Go.Sx Go.Proofs
set_option linter.unusedVariables false
set_option linter.unusedSimpArgs false
noncomputable section
def stT (e:E4) (tick:Int):Site:=(tick,2,0,-1,0,([e],[[0]],1),[],-1)
abbrev tkOk (t u:Int):Prop:=0 ≤ u ∧ t ≤ u ∧ u ≤ 1099511627776
theorem brkN_T (e x:E4) (t u:Int) (en:Entry) (h:en.1 = u):setB (setT (setE (stT e t) [x]) en.1) (brkN (stT e t) en (setE (stT e t) [x])) = stT x u:=by
  unfold brkN
  rw [if_pos (show keepS (setT (setE (stT e t) [x]) en.1) en.1 = true from rfl),h]
  rfl
theorem doG_go {s:Site} {e:Entry} (h1:wi e.1 0 1099511627776 = true) (h2:¬ e.1 < s.1) (h3:memB s.2.1 e.2.2.1 = true) (h4:¬ (e.2.1 < 1 ∨ e.2.1 > 10)) (h5:actE s e = 0):doG s e = (setB (setT (actS s e) e.1) (brkN s e (actS s e)),0):=by
  unfold doG
  rw [if_neg (by rw [h1]; decide),if_neg h2,if_neg (by rw [h3]; decide),if_neg h4,if_neg (fun k => k h5)]
theorem do_inst {e:E4} {t u:Int} (h:tkOk t u) (hk:e.1 = 0 ∨ e.1 = 3):doG (stT e t) (u,1,0,0,0,0) = (stT (1,0,0,0) u,0):=by
  have a0:insE [e] 0 = 0:=by
    unfold insE
    rw [if_neg (fun k => k (show inRg 1 0 from ⟨by decide,by decide⟩))]
    exact if_neg fun k => by
      have k1:e.1 ≠ 0:=k.1
      have k2:e.1 ≠ 3:=k.2
      rcases hk with hk | hk
      · exact k1 hk
      · exact k2 hk
  have a1:actE (stT e t) (u,1,0,0,0,0) = 0:=a0
  have a2:actS (stT e t) (u,1,0,0,0,0) = setE (stT e t) [(1,0,0,0)]:=by
    show setE (stT e t) (insL [e] 0) = _
    unfold insL
    rw [if_pos a0]
    rfl
  refine (doG_go (wi_iff.2 ⟨h.1,h.2.2⟩) (show ¬ u < t by have:=h.2.1; omega) rfl (show ¬ ((1:Int) < 1 ∨ (1:Int) > 10) by decide) a1).trans ?_
  rw [a2,brkN_T _ _ _ u _ rfl]
theorem do_test {e:E4} {t u n a:Int} (h:tkOk t u) (hk:e.1 = 1 ∨ e.1 = 2) (hn:1 ≤ n ∧ n ≤ 1000) (ha:1 ≤ a ∧ a ≤ 1000):doG (stT e t) (u,2,0,0,a,n) = (stT (2,n,u,u + a) u,0):=by
  have a0:tstE [e] (u,2,0,0,a,n) = 0:=by
    unfold tstE
    rw [if_neg (fun k => k (show inRg 1 0 from ⟨by decide,by decide⟩)),if_neg (show ¬ wi n 1 68719476736 = false by rw [wi_iff.2 ⟨hn.1,by omega⟩]; decide),if_neg (show ¬ a < 1 by omega),if_neg (show ¬ a > 16777216 by omega)]
    refine if_neg ?_
    show ¬ alvB e = false
    unfold alvB
    rcases hk with hk | hk <;> rw [hk] <;> decide
  have a1:actE (stT e t) (u,2,0,0,a,n) = 0:=a0
  have a2:actS (stT e t) (u,2,0,0,a,n) = setE (stT e t) [(2,n,u,u + a)]:=by
    show setE (stT e t) (tstL [e] (u,2,0,0,a,n)) = _
    unfold tstL
    rw [if_pos a0]
    show setE (stT e t) [(2,n,u,IntKind.wrap .i64 (u + a))] = _
    rw [W_id (by have:=h.1; omega) (by have:=h.2.2; omega)]
  refine (doG_go (wi_iff.2 ⟨h.1,h.2.2⟩) (show ¬ u < t by have:=h.2.1; omega) rfl (show ¬ ((2:Int) < 1 ∨ (2:Int) > 10) by decide) a1).trans ?_
  rw [a2,brkN_T _ _ _ u _ rfl]
theorem do_fail {e:E4} {t u:Int} (h:tkOk t u) (hk:e.1 = 1 ∨ e.1 = 2):doG (stT e t) (u,3,0,0,0,0) = (stT (3,e.2) u,0):=by
  have a0:falE [e] 0 = 0:=by
    unfold falE
    rw [if_neg (fun k => k (show inRg 1 0 from ⟨by decide,by decide⟩))]
    refine if_neg ?_
    show ¬ alvB e = false
    unfold alvB
    rcases hk with hk | hk <;> rw [hk] <;> decide
  have a1:actE (stT e t) (u,3,0,0,0,0) = 0:=a0
  have a2:actS (stT e t) (u,3,0,0,0,0) = setE (stT e t) [(3,e.2)]:=by
    show setE (stT e t) (falL [e] 0) = _
    unfold falL
    rw [if_pos a0]
    rfl
  refine (doG_go (wi_iff.2 ⟨h.1,h.2.2⟩) (show ¬ u < t by have:=h.2.1; omega) rfl (show ¬ ((3:Int) < 1 ∨ (3:Int) > 10) by decide) a1).trans ?_
  rw [a2,brkN_T _ _ _ u _ rfl]
theorem house_T {e:E4} (h:elE e = 0):houseE ([e],[[0]],1) = 0:=by
  have h1:elEs [e] = 0:=by
    unfold elEs
    rw [if_neg (fun k => k h)]
    rfl
  unfold houseE
  rw [if_neg (show ¬ _ by simp),h1]
  rfl
theorem chk_T {e:E4} {t:Int} (h:elE e = 0) (ht:0 ≤ t ∧ t ≤ 1099511627776):chkS (stT e t) = 0:=by
  refine chkS_of ?_ (house_T h) (by show (0:Nat) ≤ 16; decide) rfl rfl ⟨fun _ => rfl,fun k => ?_⟩
  · exact badN_iff.2 ⟨ht,show (1:Int) ≤ 2 ∧ (2:Int) ≤ 20 by decide,show (0:Int) ≤ 0 ∧ (0:Int) < 2 by decide,.inl rfl,show (-1:Int) ≠ 0 by decide,show (0:Int) ≤ 0 ∧ (0:Int) ≤ 68719476736 by decide⟩
  · have:keepS (stT e t) (stT e t).1 = true:=rfl
    rw [this] at k
    cases k
theorem eff_T {e:E4} (h:elE e = 0) (now need:Int):efS ([e],[[0]],1) 0 now need = effS e now need:=by
  unfold efS
  rw [house_T h]
  rfl
theorem prf_T {e:E4} (h:elE e = 0) (now need:Int):(prS ([e],[[0]],1) now need).2 = effS e now need:=by
  unfold prS
  rw [if_neg (fun k => k (house_T h))]
  show (proofF ([e],[[0]],1) [effS e now need]).isSome = effS e now need
  cases effS e now need <;> rfl
abbrev Tst:Type:=Int × Bool × Int
def nT (z:Int):Int:=z % 1099511627776
def tkT (z t:Int):Int:=t + 1 + nT z % 300
def pT (z:Int):Int:=1 + nT z / 300 % 1000
def hT (z:Int):Bool:=decide (nT z / 300000 % 4 > 0)
theorem tkT_rng (z t:Int):t + 1 ≤ tkT z t ∧ tkT z t ≤ t + 300:=by
  unfold tkT
  have h1:=Int.emod_nonneg (nT z) (show (300:Int) ≠ 0 by decide)
  have h2:=Int.emod_lt_of_pos (nT z) (show (0:Int) < 300 by decide)
  exact ⟨by omega,by omega⟩
theorem pT_rng (z:Int):1 ≤ pT z ∧ pT z ≤ 1000:=by
  unfold pT
  have h1:=Int.emod_nonneg (nT z / 300) (show (1000:Int) ≠ 0 by decide)
  have h2:=Int.emod_lt_of_pos (nT z / 300) (show (0:Int) < 1000 by decide)
  exact ⟨by omega,by omega⟩
def evT (age:Int):List Int → Int → Bool → List Entry
  | [],_,_ => []
  | z :: r,t,f => (if f = true then [(tkT z t,1,0,0,0,0)] else []) ++ ((if hT z = true then (tkT z t,2,0,0,age,pT z) else (tkT z t,3,0,0,0,0)) :: evT age r (tkT z t) (!hT z))
def tsT:List Int → Int → List Tst
  | [],_ => []
  | z :: r,t => (pT z,hT z,tkT z t) :: tsT r (tkT z t)
def endT:List Int → Int → Int
  | [],t => t
  | z :: r,t => endT r (tkT z t)
def elT (age:Int):List Int → Int → E4 → Bool → E4
  | [],_,e,_ => e
  | z :: r,t,e,f => elT age r (tkT z t) (if hT z = true then (2,pT z,tkT z t,tkT z t + age) else (3,if f = true then (0,0,0) else e.2)) (!hT z)
theorem run_T {age:Int} (ha:1 ≤ age ∧ age ≤ 1000):∀ (l:List Int) (t:Int) (e:E4) (f:Bool) (i:Int),(f = true → e.1 = 0 ∨ e.1 = 3) → (f = false → e.1 = 2) → 0 ≤ t → t + 300 * (l.length:Int) ≤ 1099511627776 →
    runG (stT e t) (evT age l t f) i = (stT (elT age l t e f) (endT l t),-1,0)
  | [],t,e,f,i,_,_,_,_ => rfl
  | z :: r,t,e,f,i,h1,h2,h3,h4 => by
    rw [List.length_cons] at h4
    have hz:=tkT_rng z t
    have hp:=pT_rng z
    have ht:tkOk t (tkT z t):=⟨by omega,by omega,by omega⟩
    have ht2:tkOk (tkT z t) (tkT z t):=⟨by omega,by omega,by omega⟩
    have last:∀ (x:E4) (u:Int) (j:Int),tkOk u (tkT z t) → (x.1 = 1 ∨ x.1 = 2) → runG (stT x u) ((if hT z = true then (tkT z t,2,0,0,age,pT z) else (tkT z t,3,0,0,0,0)) :: evT age r (tkT z t) (!hT z)) j = (stT (elT age r (tkT z t) (if hT z = true then (2,pT z,tkT z t,tkT z t + age) else (3,x.2)) (!hT z)) (endT r (tkT z t)),-1,0):=fun x u j hu hx => by
      rw [runG]
      cases hh:hT z with
      | true =>
        rw [if_pos rfl,if_pos rfl,do_test hu hx hp ha,if_neg (fun k => k rfl)]
        exact run_T ha r (tkT z t) _ _ _ (fun k => by cases k) (fun _ => rfl) (by omega) (by omega)
      | false =>
        rw [if_neg (show ¬ (false = true) from fun k => Bool.noConfusion k),if_neg (show ¬ (false = true) from fun k => Bool.noConfusion k),do_fail hu hx,if_neg (fun k => k rfl)]
        exact run_T ha r (tkT z t) _ _ _ (fun _ => .inr rfl) (fun k => by cases k) (by omega) (by omega)
    rw [evT,elT,endT]
    cases f with
    | true =>
      rw [if_pos rfl,if_pos rfl,List.cons_append,List.nil_append,runG,do_inst ht (h1 rfl),if_neg (fun k => k rfl)]
      exact last _ _ _ ht2 (.inl rfl)
    | false =>
      exact last e t i ht (.inr (h2 rfl))
theorem last_T (age:Int):∀ (l:List Int) (t:Int) (e:E4) (f:Bool),l ≠ [] → ∃ (a:List Tst) (x:Tst) (b:Int × Int × Int),tsT l t = a ++ [x] ∧ x.2.2 = endT l t ∧ (∀ y ∈ a,y.2.2 < x.2.2) ∧ t < x.2.2 ∧ (1 ≤ x.1 ∧ x.1 ≤ 1000) ∧ x.2.2 ≤ t + 300 * (l.length:Int) ∧ elT age l t e f = if x.2.1 = true then (2,x.1,x.2.2,x.2.2 + age) else (3,b)
  | [],_,_,_,h => absurd rfl h
  | z :: r,t,e,f,_ => by
    have hz:=tkT_rng z t
    have hp:=pT_rng z
    cases r with
    | nil => exact ⟨[],(pT z,hT z,tkT z t),(if f = true then (0,0,0) else e.2),rfl,rfl,fun y hy => absurd hy (List.not_mem_nil),by show t < tkT z t; omega,hp,by show tkT z t ≤ t + 300 * ((1:Nat):Int); omega,rfl⟩
    | cons w q =>
      obtain ⟨a,x,b,h1,h2,h3,h4,h5,h6,h7⟩:=last_T age (w :: q) (tkT z t) (if hT z = true then (2,pT z,tkT z t,tkT z t + age) else (3,if f = true then (0,0,0) else e.2)) (!hT z) (by simp)
      refine ⟨(pT z,hT z,tkT z t) :: a,x,b,by rw [tsT,h1]; rfl,h2,fun y hy => ?_,by omega,h5,?_,h7⟩
      · rcases List.mem_cons.1 hy with rfl | hy
        · exact h4
        · exact h3 y hy
      · have hl:((z :: w :: q).length:Int) = (w :: q).length + 1:=by rw [List.length_cons,Int.natCast_add]; rfl
        rw [hl]
        omega
def provS (l:List Tst) (need now age:Int):Bool:=l.any fun t => t.2.1 && (decide (need ≤ t.1) && (decide (t.2.2 ≤ now) && (decide (now - t.2.2 ≤ age) && !(l.any fun x => !x.2.1 && wi x.2.2 t.2.2 now))))
theorem eff_held {x:Tst} {b:Int × Int × Int} {need now age:Int} (h:effS (if x.2.1 = true then (2,x.1,x.2.2,x.2.2 + age) else (3,b)) now need = true):x.2.1 = true ∧ x.2.2 ≤ now ∧ now ≤ x.2.2 + age ∧ need ≤ x.1:=by
  cases c:x.2.1 with
  | false => rw [c,if_neg (fun k => Bool.noConfusion k)] at h; cases h
  | true =>
    rw [c,if_pos rfl] at h
    unfold effS at h
    rw [Bool.and_eq_true,Bool.and_eq_true,wi_iff,decide_eq_true_eq,decide_eq_true_eq] at h
    exact ⟨rfl,h.2.1.1,h.2.1.2,h.2.2⟩
theorem prov_last {a:List Tst} {x:Tst} {b:Int × Int × Int} {need now age:Int} (ha:∀ y ∈ a,y.2.2 < x.2.2) (h:effS (if x.2.1 = true then (2,x.1,x.2.2,x.2.2 + age) else (3,b)) now need = true):provS (a ++ [x]) need now age = true:=by
  obtain ⟨h1,h2,h3,h4⟩:=eff_held h
  unfold provS
  rw [List.any_eq_true]
  refine ⟨x,by simp,?_⟩
  rw [h1,decide_eq_true h4,decide_eq_true h2,decide_eq_true (show now - x.2.2 ≤ age by omega),Bool.true_and,Bool.true_and,Bool.true_and,Bool.true_and,Bool.not_eq_true',List.any_eq_false]
  intro y hy
  rw [Bool.and_eq_true,Bool.not_eq_true',wi_iff]
  rintro ⟨k1,k2,k3⟩
  rcases List.mem_append.1 hy with hy | hy
  · have:=ha y hy
    omega
  · rw [List.mem_singleton.1 hy,h1] at k1
    cases k1
theorem prov_one {x:Tst} {b:Int × Int × Int} {need now age:Int} (h1:x.2.1 = true) (h2:need ≤ x.1):provS [x] need now age = effS (if x.2.1 = true then (2,x.1,x.2.2,x.2.2 + age) else (3,b)) now need:=by
  rw [Bool.eq_iff_iff]
  constructor
  · intro h
    unfold provS at h
    rw [List.any_eq_true] at h
    obtain ⟨y,hy,h⟩:=h
    obtain rfl:=List.mem_singleton.1 hy
    rw [Bool.and_eq_true,Bool.and_eq_true,Bool.and_eq_true,Bool.and_eq_true,decide_eq_true_eq,decide_eq_true_eq,decide_eq_true_eq] at h
    obtain ⟨_,_,k1,k2,_⟩:=h
    rw [if_pos h1]
    unfold effS
    rw [Bool.and_eq_true,Bool.and_eq_true,wi_iff,decide_eq_true_eq,decide_eq_true_eq]
    exact ⟨rfl,⟨k1,by show now ≤ y.2.2 + age; omega⟩,h2⟩
  · intro h
    exact prov_last (a:=[]) (fun y hy => absurd hy List.not_mem_nil) h
end
end Go.MB
