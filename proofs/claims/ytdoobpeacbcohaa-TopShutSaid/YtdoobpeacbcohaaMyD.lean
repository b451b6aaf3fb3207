/- TopShut. -/
import Derived.Test.YtdoobpeacbcohaaMyC
namespace Go.MP
open Go Go.Sx Go.Proofs
set_option linter.unusedVariables false
set_option linter.unusedSimpArgs false
noncomputable section
theorem nilS_own:NilS .nils (.own 100):=by simp [NilS,newBase]
def L_cloneN:Lay:={ slots:=[(0,.oval tT)] }
theorem T_cloneN (l:List Tb) (b:Bool):mTree (P:=P) [] (lpOf []) Try.f17 L_cloneN true ((l,b),()) =
  Tree.cond b (.leaf { res:=SV.nils,boxes:=[] }) (.need (((0:Nat) + List.length l) * (72:Nat) ≤ (140737488355328:Nat)) (.leaf { res:=SV.own (nat_lit 100),boxes:=[],news:=[Ob.row (24:Nat) (Ty.pair (Ty.int IntKind.i64) (Ty.pair (Ty.int IntKind.i64) (Ty.pair (Ty.int IntKind.i64) (Ty.pair (Ty.int IntKind.i64) (Ty.pair (Ty.int IntKind.i64) (Ty.pair (Ty.int IntKind.i64) (Ty.pair (Ty.int IntKind.i64) (Ty.pair (Ty.int IntKind.i64) (Ty.int IntKind.i64))))))))) l] })):=by kernel_rfl
def c_cloneN:XC P:=XC.of (α:=(List Tb × Bool) × Unit) 17 L_cloneN (fun x => x) (fun x => x) (fun _ => rfl)
  (fun x => some ((x.1.2 = true → x.1.1 = []) ∧ x.1.1.length ≤ 1000))
  (fun x => ⟨.own 100,[],[.row 24 tT x.1.1]⟩) (by kernel_rfl) (by kernel_rfl) (by
    rintro ⟨⟨l,b⟩,⟨⟩⟩ hp
    refine m_nil hm (own:=true) (by kernel_rfl) (by kernel_rfl) (by kernel_rfl) (T_cloneN l b) trivial (by kernel_rfl) (by kernel_rfl) ?_
    obtain ⟨h1,h2⟩ : (b = true → l = []) ∧ l.length ≤ 1000:=hp
    refine ⟨fun h => .inr ⟨rfl,rfl,h1 h,nilS_own⟩,fun _ => ⟨by show (0 + l.length) * 72 ≤ 140737488355328; omega,.inl rfl⟩⟩)
def c_cloneG:XC P where
  f:=c_cloneN.f
  L:={ slots:=[(0,.val tTs)] }
  pre:=fun x => some (List.length (α:=Tb) x.1 ≤ 1000)
  out:=fun x => ⟨.own 100,[],[.row 24 tT x.1]⟩
  ent:=c_cloneN.ent
  lok:=rfl
  ok:=fun x h => MFnOk.byNil fun b hb => c_cloneN.ok ((x.1,b),()) ⟨hb,h⟩
def add0 (t:Tb):List Tb × Int:=if checkT [t] ≠ 0 then ([],checkT [t]) else ([t],0)
theorem T_Add0 (l_0:List Tb) (t_0 t_1 t_2 t_3 t_4 t_5 t_6 t_7 t_8:Int):fnTree (P:=P) [c_TCheck.gc,c_cloneG.gc] (lpOf []) Try.f5 (encL 0 [.agg tTs,.agg tT] (l_0,(t_0,(t_1,(t_2,(t_3,(t_4,(t_5,(t_6,(t_7,t_8)))))))),())) =
  Tree.need ((l_0.length:Int) < (2:Int) ^ (62:Nat)) (.cond (decide ((l_0.length:Int) > (0:Int))) (.cond (checkT l_0 != (0:Int)) (.leaf (SV.tup [SV.agg [SV.nils],SV.int IntKind.i64 (checkT l_0)])) (.need (List.length l_0 ≤ (1000:Nat)) (.need ((List.length l_0 + List.length [(t_0,t_1,t_2,t_3,t_4,t_5,t_6,t_7,t_8)]) * (72:Nat) ≤ (140737488355328:Nat)) (.need ((↑(List.length (l_0 ++ [(t_0,t_1,t_2,t_3,t_4,t_5,t_6,t_7,t_8)])):Int) < (2:Int) ^ (62:Nat)) (.cond (checkT (l_0 ++ [(t_0,t_1,t_2,t_3,t_4,t_5,t_6,t_7,t_8)]) != (0:Int)) (.leaf (SV.tup [SV.agg [SV.nils],SV.int IntKind.i64 (checkT (l_0 ++ [(t_0,t_1,t_2,t_3,t_4,t_5,t_6,t_7,t_8)]))])) (.leaf (SV.tup [SV.agg [SV.sl (Ty.pair tI (Ty.pair tI (Ty.pair tI (Ty.pair tI (Ty.pair tI (Ty.pair tI (Ty.pair tI (Ty.pair tI tI)))))))) (l_0 ++ [(t_0,t_1,t_2,t_3,t_4,t_5,t_6,t_7,t_8)])],SV.int IntKind.i64 (0:Int)]))))))) (.need (List.length l_0 ≤ (1000:Nat)) (.need ((List.length l_0 + List.length [(t_0,t_1,t_2,t_3,t_4,t_5,t_6,t_7,t_8)]) * (72:Nat) ≤ (140737488355328:Nat)) (.need ((↑(List.length (l_0 ++ [(t_0,t_1,t_2,t_3,t_4,t_5,t_6,t_7,t_8)])):Int) < (2:Int) ^ (62:Nat)) (.cond (checkT (l_0 ++ [(t_0,t_1,t_2,t_3,t_4,t_5,t_6,t_7,t_8)]) != (0:Int)) (.leaf (SV.tup [SV.agg [SV.nils],SV.int IntKind.i64 (checkT (l_0 ++ [(t_0,t_1,t_2,t_3,t_4,t_5,t_6,t_7,t_8)]))])) (.leaf (SV.tup [SV.agg [SV.sl (Ty.pair tI (Ty.pair tI (Ty.pair tI (Ty.pair tI (Ty.pair tI (Ty.pair tI (Ty.pair tI (Ty.pair tI tI)))))))) (l_0 ++ [(t_0,t_1,t_2,t_3,t_4,t_5,t_6,t_7,t_8)])],SV.int IntKind.i64 (0:Int)]))))))):=by kernel_rfl
def c_Add0:PC P:=PC.of (α:=List Tb × Tb × Unit) 5 [.agg tTs,.agg tT] (fun x => x) (fun x => x) (fun _ => rfl)
  (fun x => some (x.1.length = 0))
  (fun x => .tup [.agg [.sl tT (add0 x.2.1).1],.int .i64 (add0 x.2.1).2]) (by kernel_rfl) (by
    rintro ⟨l_0,⟨t_0,⟨t_1,⟨t_2,⟨t_3,⟨t_4,⟨t_5,⟨t_6,⟨t_7,t_8⟩⟩⟩⟩⟩⟩⟩⟩,⟨⟩⟩ hp
    refine fn_le hm (by kernel_rfl) (by kernel_rfl) (T_Add0 l_0 t_0 t_1 t_2 t_3 t_4 t_5 t_6 t_7 t_8) trivial (by kernel_rfl) ?_
    try dsimp only at hp
    try dsimp only
    obtain rfl:l_0 = []:=List.eq_nil_of_length_eq_zero hp
    have leS_d:∀ (l:List Tb) (e:Int),LeS (.tup [.agg [.sl tT l],.int .i64 e]) (.tup [.agg [.sl tT l],.int .i64 e]):=fun l e => by simp [LeS,LeL]
    have leS_n:∀ e:Int,LeS (.tup [.agg [.nils],.int .i64 e]) (.tup [.agg [.sl tT []],.int .i64 e]):=fun e => by simp [LeS,LeL]
    show Tree.holds (fun s => LeS s (SV.tup [.agg [.sl tT (add0 (t_0,t_1,t_2,t_3,t_4,t_5,t_6,t_7,t_8)).1],.int .i64 (add0 (t_0,t_1,t_2,t_3,t_4,t_5,t_6,t_7,t_8)).2])) _
    generalize (t_0,t_1,t_2,t_3,t_4,t_5,t_6,t_7,t_8) = t at *
    refine ⟨by decide,⟨fun c1 => absurd (of_decide_eq_true c1) (by decide),fun c1 => ⟨by decide,⟨by simp only [List.length_cons,List.length_nil]; omega,⟨by simp only [List.nil_append,List.length_cons,List.length_nil]; omega,⟨fun c4 => ?_,fun c4 => ?_⟩⟩⟩⟩⟩⟩
    · have d4:checkT [t] ≠ 0:=by simpa using c4
      unfold add0
      rw [if_pos d4]
      exact leS_n _
    · have d4:¬ checkT [t] ≠ 0:=by simpa using c4
      unfold add0
      rw [if_neg d4]
      exact leS_d _ _)
end
end Go.MP
namespace Go.MR
open Go Go.Sx Go.Proofs
open Go.MP (c_tawake c_TCheck c_Near nearS checkT tT tTs Tb c_Add0 add0 c_Mod64)
set_option linter.unusedVariables false
set_option linter.unusedSimpArgs false
noncomputable section
theorem T_CheckHouse0 (s0_0:List (Int × V)) (s0_1:List (List Int)) (s0_2:Int):fnTree (P:=P) [] (lpOf []) Try.f15 (encL 0 [.agg (.pair (.sl (.pair tI tV)) (.pair (.sl tIs) tI))] ((s0_0,(s0_1,s0_2)),())) =
  Tree.cond ((s0_0.length:Int) == (0:Int)) (.leaf (SV.int IntKind.i64 (6:Int))) (.cond (decide ((s0_0.length:Int) > (10:Int))) (.leaf (SV.int IntKind.i64 (8:Int))) (.cond (decide ((s0_1.length:Int) > (8:Int))) (.leaf (SV.int IntKind.i64 (8:Int))) (Tree.fail (201:Nat)))):=by kernel_rfl
def c_CheckHouse0:PC P:=PC.of (α:=(List (Int × V) × (List (List Int) × Int)) × Unit) 15 [.agg (.pair (.sl (.pair tI tV)) (.pair (.sl tIs) tI))] (fun x => x) (fun x => x) (fun _ => rfl)
  (fun x => some (x.1.1.length = 0))
  (fun x => .int .i64 6) (by kernel_rfl) (by
    rintro ⟨⟨s0_0,⟨s0_1,s0_2⟩⟩,⟨⟩⟩ hp
    refine fn_of hm (by kernel_rfl) (by kernel_rfl) (T_CheckHouse0 s0_0 s0_1 s0_2) trivial ?_
    try dsimp only at hp
    try dsimp only
    have h:s0_0.length = 0:=hp
    have n1:(s0_0.length:Int) = 0:=by omega
    refine ⟨fun c1 => rfl,fun c1 => ?_⟩
    rw [n1] at c1
    cases c1)
theorem accW_le {r:Rig} {g:List (Int × Int)} {l:Nat}:∀ (L:List (List Int)) (x:Int × Int),0 ≤ x.2 → x.2 + L.length ≤ 100000 → x.2 ≤ (L.foldl (accW r g l) x).2 ∧ ∀ s ∈ L,safeS r.1 r.2 s = true → tickD r.1 r.2 g l s < 0 → 0 < (L.foldl (accW r g l) x).2
  | [],x,h0,h1 => ⟨Int.le_refl _,fun s hs => by cases hs⟩
  | a :: L,x,h0,h1 => by
    rw [List.length_cons] at h1
    have e:(accW r g l x a).2 = x.2 ∨ (accW r g l x a).2 = x.2 + 1:=by
      unfold accW
      split
      · exact .inl rfl
      · split
        · exact .inr (W_id (by omega) (by omega))
        · exact .inl rfl
    have ih:=accW_le (r:=r) (g:=g) (l:=l) L (accW r g l x a) (by omega) (by omega)
    rw [List.foldl_cons]
    refine ⟨by omega,fun s hs h2 h3 => ?_⟩
    rcases List.mem_cons.1 hs with rfl | hs
    · have hr:=tickD_rng r.1 r.2 g l s
      have e2:(accW r g l x s).2 = x.2 + 1:=by
        unfold accW
        rw [if_neg (by rw [h2]; simp),W_id (n:=tickD r.1 r.2 g l s) (by omega) (by omega),if_pos h3]
        exact W_id (by omega) (by omega)
      omega
    · exact ih.2 s hs h2 h3
theorem ready_stuck {r:Rig} {g:List (Int × Int)} {l:Nat} (hl:l ≤ 2) (hg:goalS r g = 0) {s:List Int} (hs:Sf r s) (ht:tickD r.1 r.2 g l s < 0):(readyS r g l).2.2 = 0 ∧ 0 < (readyS r g l).2.1:=by
  have h:=rg_of hs
  have hp:=h.pr
  have h2:wi (l:Int) 0 2 = true:=by unfold wi; rw [decide_eq_true (by omega),decide_eq_true (by omega)]; rfl
  have h4:=rdyR_fold h g (losses:=l) hl (prodL r.1).toNat 0 (0,0) (by omega)
  obtain ⟨n1,n2,n3⟩:=h.num hs.vs
  unfold readyS
  rw [if_neg (by rw [hg]; simp),if_neg (by rw [h2]; simp),h.many]
  refine ⟨rfl,?_⟩
  show 0 < (rdyR (cntSf r.1 r.2 g) (cntTk r.1 r.2 g (l:Int)) (l:Int) (prodL r.1).toNat ((0:Nat):Int) (0,0)).2
  rw [h4]
  refine (accW_le (r:=r) (g:=g) (l:=l) _ (0,0) (Int.le_refl _) ?_).2 s ?_ hs.sf ht
  · rw [List.length_map,List.length_range']
    show (0:Int) + _ ≤ _
    omega
  · rw [List.mem_map]
    refine ⟨(numW r.1 s 0).toNat,?_,?_⟩
    · rw [List.mem_range'_1]; omega
    · rw [show (((numW r.1 s 0).toNat:Nat):Int) = numW r.1 s 0 by omega]; exact n1
theorem tube_ok {c L:Int} (h0:1 ≤ c) (h1:c ≤ 30) (h2:100 ≤ L) (h3:L ≤ 1599):checkT [(c,L,300000,30,13,1099511627776,1099511627776,0,0)] = 0:=by
  have hm:=Go.MP.mul_rng (a:=c) (b:=L) (A:=30) (B:=1599) (by omega) h1 (by omega) h3
  have f:Go.MP.fairT (c,L,300000,30,13,1099511627776,1099511627776,0,0) = true:=by
    have w1:wi c 1 400 = true:=by unfold wi; rw [decide_eq_true (by omega),decide_eq_true (by omega)]; rfl
    have w2:wi L 100 4000 = true:=by unfold wi; rw [decide_eq_true (by omega),decide_eq_true (by omega)]; rfl
    show (wi c 1 400 && (wi L 100 4000 && _)) = true
    rw [w1,w2]
    dsimp only
    decide
  have b : [((c,L,300000,30,13,1099511627776,1099511627776,0,0):Tb)].any Go.MP.badT = false:=by
    show (Go.MP.badT _ || false) = false
    unfold Go.MP.badT
    rw [f]; rfl
  unfold checkT
  rw [if_neg (by simp),if_neg (by simp),if_neg (by rw [b]; simp),if_neg]
  simp only [Go.MP.sumT]
  omega
theorem T_TopShut (count long faces step near hoist wh who:Int) (x1_:Nat) (hx1_:x1_ = (Int.toNat ((ticksS ([(8:Int),(3:Int)],shearS (faces % IntKind.i64.wrap (IntKind.i64.wrap (IntKind.i64.wrap ((1:Int) + count % (30:Int)) * IntKind.i64.wrap ((100:Int) + long % (1500:Int))) + (1:Int)),IntKind.i64.wrap ((1:Int) + step % (500:Int)),near % (60:Int)) (add0 (IntKind.i64.wrap ((1:Int) + count % (30:Int)),IntKind.i64.wrap ((100:Int) + long % (1500:Int)),(300000:Int),(30:Int),(13:Int),(1099511627776:Int),(1099511627776:Int),(0:Int),(0:Int))).fst (0:Int) (8:Int) (1:Int) ((2:Int),(2:Int))) [hoist % (8:Int),(0:Int)] [((0:Int),(7:Int)),((2:Int),(2:Int))] (1:Int)).fst - (0:Int)))):fnTree (P:=P) [c_Mod64.gc,c_Mod.gc,c_Add0.gc,c_Shear.gc,c_Ticks.gc,c_Ready.gc,c_State.gc,c_Next.gc,c_Step.gc,c_tawake.gc,c_Near.gc,c_CheckHouse0.gc] (lpOf [(0,R_tshut)]) Try.f3 (encL 0 [.val tI,.val tI,.val tI,.val tI,.val tI,.val tI,.val tI,.val tI] (count,long,faces,step,near,hoist,wh,who,())) =
  Tree.need ((0:Int) < (30:Int) ∧ MP.R64 (30:Int)) (.need ((0:Int) < (1500:Int) ∧ MP.R64 (1500:Int)) (.need ((0:Nat) = (0:Nat)) (.cond ((add0 (IntKind.i64.wrap ((1:Int) + count % (30:Int)),IntKind.i64.wrap ((100:Int) + long % (1500:Int)),(300000:Int),(30:Int),(13:Int),(1099511627776:Int),(1099511627776:Int),(0:Int),(0:Int))).snd != (0:Int)) (.leaf (SV.bool false)) (.cond ((↑(List.length (add0 (IntKind.i64.wrap ((1:Int) + count % (30:Int)),IntKind.i64.wrap ((100:Int) + long % (1500:Int)),(300000:Int),(30:Int),(13:Int),(1099511627776:Int),(1099511627776:Int),(0:Int),(0:Int))).fst):Int) != (1:Int)) (.leaf (SV.bool false)) (.need ((0:Int) < IntKind.i64.wrap (IntKind.i64.wrap (IntKind.i64.wrap ((1:Int) + count % (30:Int)) * IntKind.i64.wrap ((100:Int) + long % (1500:Int))) + (1:Int)) ∧ MP.R64 (IntKind.i64.wrap (IntKind.i64.wrap (IntKind.i64.wrap ((1:Int) + count % (30:Int)) * IntKind.i64.wrap ((100:Int) + long % (1500:Int))) + (1:Int)))) (.need ((0:Int) < (500:Int) ∧ MP.R64 (500:Int)) (.need ((0:Int) < (60:Int) ∧ MP.R64 (60:Int)) (.need ((↑(List.length (add0 (IntKind.i64.wrap ((1:Int) + count % (30:Int)),IntKind.i64.wrap ((100:Int) + long % (1500:Int)),(300000:Int),(30:Int),(13:Int),(1099511627776:Int),(1099511627776:Int),(0:Int),(0:Int))).fst):Int) < (2:Int) ^ (62:Nat)) (.cond (ramE (faces % IntKind.i64.wrap (IntKind.i64.wrap (IntKind.i64.wrap ((1:Int) + count % (30:Int)) * IntKind.i64.wrap ((100:Int) + long % (1500:Int))) + (1:Int)),IntKind.i64.wrap ((1:Int) + step % (500:Int)),near % (60:Int)) (add0 (IntKind.i64.wrap ((1:Int) + count % (30:Int)),IntKind.i64.wrap ((100:Int) + long % (1500:Int)),(300000:Int),(30:Int),(13:Int),(1099511627776:Int),(1099511627776:Int),(0:Int),(0:Int))).fst (0:Int) (8:Int) (1:Int) ((2:Int),(2:Int)) != (0:Int)) (.leaf (SV.bool false)) (.need ((0:Int) < (8:Int) ∧ R64 (8:Int)) (.cond ((ticksS ([(8:Int),(3:Int)],shearS (faces % IntKind.i64.wrap (IntKind.i64.wrap (IntKind.i64.wrap ((1:Int) + count % (30:Int)) * IntKind.i64.wrap ((100:Int) + long % (1500:Int))) + (1:Int)),IntKind.i64.wrap ((1:Int) + step % (500:Int)),near % (60:Int)) (add0 (IntKind.i64.wrap ((1:Int) + count % (30:Int)),IntKind.i64.wrap ((100:Int) + long % (1500:Int)),(300000:Int),(30:Int),(13:Int),(1099511627776:Int),(1099511627776:Int),(0:Int),(0:Int))).fst (0:Int) (8:Int) (1:Int) ((2:Int),(2:Int))) [hoist % (8:Int),(0:Int)] [((0:Int),(7:Int)),((2:Int),(2:Int))] (1:Int)).snd == (13:Int)) (.cond ((readyS ([(8:Int),(3:Int)],shearS (faces % IntKind.i64.wrap (IntKind.i64.wrap (IntKind.i64.wrap ((1:Int) + count % (30:Int)) * IntKind.i64.wrap ((100:Int) + long % (1500:Int))) + (1:Int)),IntKind.i64.wrap ((1:Int) + step % (500:Int)),near % (60:Int)) (add0 (IntKind.i64.wrap ((1:Int) + count % (30:Int)),IntKind.i64.wrap ((100:Int) + long % (1500:Int)),(300000:Int),(30:Int),(13:Int),(1099511627776:Int),(1099511627776:Int),(0:Int),(0:Int))).fst (0:Int) (8:Int) (1:Int) ((2:Int),(2:Int))) [((0:Int),(7:Int)),((2:Int),(2:Int))] (1:Int)).snd.snd == (0:Int)) (.cond (decide ((readyS ([(8:Int),(3:Int)],shearS (faces % IntKind.i64.wrap (IntKind.i64.wrap (IntKind.i64.wrap ((1:Int) + count % (30:Int)) * IntKind.i64.wrap ((100:Int) + long % (1500:Int))) + (1:Int)),IntKind.i64.wrap ((1:Int) + step % (500:Int)),near % (60:Int)) (add0 (IntKind.i64.wrap ((1:Int) + count % (30:Int)),IntKind.i64.wrap ((100:Int) + long % (1500:Int)),(300000:Int),(30:Int),(13:Int),(1099511627776:Int),(1099511627776:Int),(0:Int),(0:Int))).fst (0:Int) (8:Int) (1:Int) ((2:Int),(2:Int))) [((0:Int),(7:Int)),((2:Int),(2:Int))] (1:Int)).snd.fst > (0:Int))) (.leaf (SV.bool true)) (.leaf (SV.bool false))) (.leaf (SV.bool false))) (.cond ((ticksS ([(8:Int),(3:Int)],shearS (faces % IntKind.i64.wrap (IntKind.i64.wrap (IntKind.i64.wrap ((1:Int) + count % (30:Int)) * IntKind.i64.wrap ((100:Int) + long % (1500:Int))) + (1:Int)),IntKind.i64.wrap ((1:Int) + step % (500:Int)),near % (60:Int)) (add0 (IntKind.i64.wrap ((1:Int) + count % (30:Int)),IntKind.i64.wrap ((100:Int) + long % (1500:Int)),(300000:Int),(30:Int),(13:Int),(1099511627776:Int),(1099511627776:Int),(0:Int),(0:Int))).fst (0:Int) (8:Int) (1:Int) ((2:Int),(2:Int))) [hoist % (8:Int),(0:Int)] [((0:Int),(7:Int)),((2:Int),(2:Int))] (1:Int)).snd != (0:Int)) (.leaf (SV.bool false)) (.need ((0:Int) < IntKind.i64.wrap ((ticksS ([(8:Int),(3:Int)],shearS (faces % IntKind.i64.wrap (IntKind.i64.wrap (IntKind.i64.wrap ((1:Int) + count % (30:Int)) * IntKind.i64.wrap ((100:Int) + long % (1500:Int))) + (1:Int)),IntKind.i64.wrap ((1:Int) + step % (500:Int)),near % (60:Int)) (add0 (IntKind.i64.wrap ((1:Int) + count % (30:Int)),IntKind.i64.wrap ((100:Int) + long % (1500:Int)),(300000:Int),(30:Int),(13:Int),(1099511627776:Int),(1099511627776:Int),(0:Int),(0:Int))).fst (0:Int) (8:Int) (1:Int) ((2:Int),(2:Int))) [hoist % (8:Int),(0:Int)] [((0:Int),(7:Int)),((2:Int),(2:Int))] (1:Int)).fst + (1:Int)) ∧ R64 (IntKind.i64.wrap ((ticksS ([(8:Int),(3:Int)],shearS (faces % IntKind.i64.wrap (IntKind.i64.wrap (IntKind.i64.wrap ((1:Int) + count % (30:Int)) * IntKind.i64.wrap ((100:Int) + long % (1500:Int))) + (1:Int)),IntKind.i64.wrap ((1:Int) + step % (500:Int)),near % (60:Int)) (add0 (IntKind.i64.wrap ((1:Int) + count % (30:Int)),IntKind.i64.wrap ((100:Int) + long % (1500:Int)),(300000:Int),(30:Int),(13:Int),(1099511627776:Int),(1099511627776:Int),(0:Int),(0:Int))).fst (0:Int) (8:Int) (1:Int) ((2:Int),(2:Int))) [hoist % (8:Int),(0:Int)] [((0:Int),(7:Int)),((2:Int),(2:Int))] (1:Int)).fst + (1:Int)))) (.need (inv_tshut (wh % IntKind.i64.wrap ((ticksS ([(8:Int),(3:Int)],shearS (faces % IntKind.i64.wrap (IntKind.i64.wrap (IntKind.i64.wrap ((1:Int) + count % (30:Int)) * IntKind.i64.wrap ((100:Int) + long % (1500:Int))) + (1:Int)),IntKind.i64.wrap ((1:Int) + step % (500:Int)),near % (60:Int)) (add0 (IntKind.i64.wrap ((1:Int) + count % (30:Int)),IntKind.i64.wrap ((100:Int) + long % (1500:Int)),(300000:Int),(30:Int),(13:Int),(1099511627776:Int),(1099511627776:Int),(0:Int),(0:Int))).fst (0:Int) (8:Int) (1:Int) ((2:Int),(2:Int))) [hoist % (8:Int),(0:Int)] [((0:Int),(7:Int)),((2:Int),(2:Int))] (1:Int)).fst + (1:Int)),who,(),(),(),[((0:Int),(7:Int)),((2:Int),(2:Int))],[hoist % (8:Int),(0:Int)],(ticksS ([(8:Int),(3:Int)],shearS (faces % IntKind.i64.wrap (IntKind.i64.wrap (IntKind.i64.wrap ((1:Int) + count % (30:Int)) * IntKind.i64.wrap ((100:Int) + long % (1500:Int))) + (1:Int)),IntKind.i64.wrap ((1:Int) + step % (500:Int)),near % (60:Int)) (add0 (IntKind.i64.wrap ((1:Int) + count % (30:Int)),IntKind.i64.wrap ((100:Int) + long % (1500:Int)),(300000:Int),(30:Int),(13:Int),(1099511627776:Int),(1099511627776:Int),(0:Int),(0:Int))).fst (0:Int) (8:Int) (1:Int) ((2:Int),(2:Int))) [hoist % (8:Int),(0:Int)] [((0:Int),(7:Int)),((2:Int),(2:Int))] (1:Int)).fst,(1:Int),(0:Int),(add0 (IntKind.i64.wrap ((1:Int) + count % (30:Int)),IntKind.i64.wrap ((100:Int) + long % (1500:Int)),(300000:Int),(30:Int),(13:Int),(1099511627776:Int),(1099511627776:Int),(0:Int),(0:Int))).fst,faces % IntKind.i64.wrap (IntKind.i64.wrap (IntKind.i64.wrap ((1:Int) + count % (30:Int)) * IntKind.i64.wrap ((100:Int) + long % (1500:Int))) + (1:Int)),IntKind.i64.wrap ((1:Int) + step % (500:Int)),near % (60:Int),[(8:Int),(3:Int)],shearS (faces % IntKind.i64.wrap (IntKind.i64.wrap (IntKind.i64.wrap ((1:Int) + count % (30:Int)) * IntKind.i64.wrap ((100:Int) + long % (1500:Int))) + (1:Int)),IntKind.i64.wrap ((1:Int) + step % (500:Int)),near % (60:Int)) (add0 (IntKind.i64.wrap ((1:Int) + count % (30:Int)),IntKind.i64.wrap ((100:Int) + long % (1500:Int)),(300000:Int),(30:Int),(13:Int),(1099511627776:Int),(1099511627776:Int),(0:Int),(0:Int))).fst (0:Int) (8:Int) (1:Int) ((2:Int),(2:Int)),())) (.need ((0:Int) ≤ (0:Int) ∧ (0:Int) < (↑(List.length (shR ([(8:Int),(3:Int)],shearS (faces % IntKind.i64.wrap (IntKind.i64.wrap (IntKind.i64.wrap ((1:Int) + count % (30:Int)) * IntKind.i64.wrap ((100:Int) + long % (1500:Int))) + (1:Int)),IntKind.i64.wrap ((1:Int) + step % (500:Int)),near % (60:Int)) (add0 (IntKind.i64.wrap ((1:Int) + count % (30:Int)),IntKind.i64.wrap ((100:Int) + long % (1500:Int)),(300000:Int),(30:Int),(13:Int),(1099511627776:Int),(1099511627776:Int),(0:Int),(0:Int))).fst (0:Int) (8:Int) (1:Int) ((2:Int),(2:Int))) gT (wh % IntKind.i64.wrap ((ticksS ([(8:Int),(3:Int)],shearS (faces % IntKind.i64.wrap (IntKind.i64.wrap (IntKind.i64.wrap ((1:Int) + count % (30:Int)) * IntKind.i64.wrap ((100:Int) + long % (1500:Int))) + (1:Int)),IntKind.i64.wrap ((1:Int) + step % (500:Int)),near % (60:Int)) (add0 (IntKind.i64.wrap ((1:Int) + count % (30:Int)),IntKind.i64.wrap ((100:Int) + long % (1500:Int)),(300000:Int),(30:Int),(13:Int),(1099511627776:Int),(1099511627776:Int),(0:Int),(0:Int))).fst (0:Int) (8:Int) (1:Int) ((2:Int),(2:Int))) [hoist % (8:Int),(0:Int)] [((0:Int),(7:Int)),((2:Int),(2:Int))] (1:Int)).fst + (1:Int))) (who % (2:Int)) x1_ (0:Int) [hoist % (8:Int),(0:Int)] (1:Int))):Int)) (.need ((0:Int) ≤ (1:Int) ∧ (1:Int) < (↑(List.length (shR ([(8:Int),(3:Int)],shearS (faces % IntKind.i64.wrap (IntKind.i64.wrap (IntKind.i64.wrap ((1:Int) + count % (30:Int)) * IntKind.i64.wrap ((100:Int) + long % (1500:Int))) + (1:Int)),IntKind.i64.wrap ((1:Int) + step % (500:Int)),near % (60:Int)) (add0 (IntKind.i64.wrap ((1:Int) + count % (30:Int)),IntKind.i64.wrap ((100:Int) + long % (1500:Int)),(300000:Int),(30:Int),(13:Int),(1099511627776:Int),(1099511627776:Int),(0:Int),(0:Int))).fst (0:Int) (8:Int) (1:Int) ((2:Int),(2:Int))) gT (wh % IntKind.i64.wrap ((ticksS ([(8:Int),(3:Int)],shearS (faces % IntKind.i64.wrap (IntKind.i64.wrap (IntKind.i64.wrap ((1:Int) + count % (30:Int)) * IntKind.i64.wrap ((100:Int) + long % (1500:Int))) + (1:Int)),IntKind.i64.wrap ((1:Int) + step % (500:Int)),near % (60:Int)) (add0 (IntKind.i64.wrap ((1:Int) + count % (30:Int)),IntKind.i64.wrap ((100:Int) + long % (1500:Int)),(300000:Int),(30:Int),(13:Int),(1099511627776:Int),(1099511627776:Int),(0:Int),(0:Int))).fst (0:Int) (8:Int) (1:Int) ((2:Int),(2:Int))) [hoist % (8:Int),(0:Int)] [((0:Int),(7:Int)),((2:Int),(2:Int))] (1:Int)).fst + (1:Int))) (who % (2:Int)) x1_ (0:Int) [hoist % (8:Int),(0:Int)] (1:Int))):Int)) (.cond (List.getD (shR ([(8:Int),(3:Int)],shearS (faces % IntKind.i64.wrap (IntKind.i64.wrap (IntKind.i64.wrap ((1:Int) + count % (30:Int)) * IntKind.i64.wrap ((100:Int) + long % (1500:Int))) + (1:Int)),IntKind.i64.wrap ((1:Int) + step % (500:Int)),near % (60:Int)) (add0 (IntKind.i64.wrap ((1:Int) + count % (30:Int)),IntKind.i64.wrap ((100:Int) + long % (1500:Int)),(300000:Int),(30:Int),(13:Int),(1099511627776:Int),(1099511627776:Int),(0:Int),(0:Int))).fst (0:Int) (8:Int) (1:Int) ((2:Int),(2:Int))) gT (wh % IntKind.i64.wrap ((ticksS ([(8:Int),(3:Int)],shearS (faces % IntKind.i64.wrap (IntKind.i64.wrap (IntKind.i64.wrap ((1:Int) + count % (30:Int)) * IntKind.i64.wrap ((100:Int) + long % (1500:Int))) + (1:Int)),IntKind.i64.wrap ((1:Int) + step % (500:Int)),near % (60:Int)) (add0 (IntKind.i64.wrap ((1:Int) + count % (30:Int)),IntKind.i64.wrap ((100:Int) + long % (1500:Int)),(300000:Int),(30:Int),(13:Int),(1099511627776:Int),(1099511627776:Int),(0:Int),(0:Int))).fst (0:Int) (8:Int) (1:Int) ((2:Int),(2:Int))) [hoist % (8:Int),(0:Int)] [((0:Int),(7:Int)),((2:Int),(2:Int))] (1:Int)).fst + (1:Int))) (who % (2:Int)) x1_ (0:Int) [hoist % (8:Int),(0:Int)] (1:Int)) (Int.toNat (1:Int)) (0:Int) == (2:Int)) (.need ((↑(List.length (add0 (IntKind.i64.wrap ((1:Int) + count % (30:Int)),IntKind.i64.wrap ((100:Int) + long % (1500:Int)),(300000:Int),(30:Int),(13:Int),(1099511627776:Int),(1099511627776:Int),(0:Int),(0:Int))).fst):Int) < (2:Int) ^ (62:Nat)) (.cond (!nearS (add0 (IntKind.i64.wrap ((1:Int) + count % (30:Int)),IntKind.i64.wrap ((100:Int) + long % (1500:Int)),(300000:Int),(30:Int),(13:Int),(1099511627776:Int),(1099511627776:Int),(0:Int),(0:Int))).fst (IntKind.i64.wrap (IntKind.i64.wrap (faces % IntKind.i64.wrap (IntKind.i64.wrap (IntKind.i64.wrap ((1:Int) + count % (30:Int)) * IntKind.i64.wrap ((100:Int) + long % (1500:Int))) + (1:Int)) - IntKind.i64.wrap (List.getD (shR ([(8:Int),(3:Int)],shearS (faces % IntKind.i64.wrap (IntKind.i64.wrap (IntKind.i64.wrap ((1:Int) + count % (30:Int)) * IntKind.i64.wrap ((100:Int) + long % (1500:Int))) + (1:Int)),IntKind.i64.wrap ((1:Int) + step % (500:Int)),near % (60:Int)) (add0 (IntKind.i64.wrap ((1:Int) + count % (30:Int)),IntKind.i64.wrap ((100:Int) + long % (1500:Int)),(300000:Int),(30:Int),(13:Int),(1099511627776:Int),(1099511627776:Int),(0:Int),(0:Int))).fst (0:Int) (8:Int) (1:Int) ((2:Int),(2:Int))) gT (wh % IntKind.i64.wrap ((ticksS ([(8:Int),(3:Int)],shearS (faces % IntKind.i64.wrap (IntKind.i64.wrap (IntKind.i64.wrap ((1:Int) + count % (30:Int)) * IntKind.i64.wrap ((100:Int) + long % (1500:Int))) + (1:Int)),IntKind.i64.wrap ((1:Int) + step % (500:Int)),near % (60:Int)) (add0 (IntKind.i64.wrap ((1:Int) + count % (30:Int)),IntKind.i64.wrap ((100:Int) + long % (1500:Int)),(300000:Int),(30:Int),(13:Int),(1099511627776:Int),(1099511627776:Int),(0:Int),(0:Int))).fst (0:Int) (8:Int) (1:Int) ((2:Int),(2:Int))) [hoist % (8:Int),(0:Int)] [((0:Int),(7:Int)),((2:Int),(2:Int))] (1:Int)).fst + (1:Int))) (who % (2:Int)) x1_ (0:Int) [hoist % (8:Int),(0:Int)] (1:Int)) (Int.toNat (0:Int)) (0:Int) * IntKind.i64.wrap ((1:Int) + step % (500:Int)))) - near % (60:Int))) (IntKind.i64.wrap (IntKind.i64.wrap (faces % IntKind.i64.wrap (IntKind.i64.wrap (IntKind.i64.wrap ((1:Int) + count % (30:Int)) * IntKind.i64.wrap ((100:Int) + long % (1500:Int))) + (1:Int)) - IntKind.i64.wrap (List.getD (shR ([(8:Int),(3:Int)],shearS (faces % IntKind.i64.wrap (IntKind.i64.wrap (IntKind.i64.wrap ((1:Int) + count % (30:Int)) * IntKind.i64.wrap ((100:Int) + long % (1500:Int))) + (1:Int)),IntKind.i64.wrap ((1:Int) + step % (500:Int)),near % (60:Int)) (add0 (IntKind.i64.wrap ((1:Int) + count % (30:Int)),IntKind.i64.wrap ((100:Int) + long % (1500:Int)),(300000:Int),(30:Int),(13:Int),(1099511627776:Int),(1099511627776:Int),(0:Int),(0:Int))).fst (0:Int) (8:Int) (1:Int) ((2:Int),(2:Int))) gT (wh % IntKind.i64.wrap ((ticksS ([(8:Int),(3:Int)],shearS (faces % IntKind.i64.wrap (IntKind.i64.wrap (IntKind.i64.wrap ((1:Int) + count % (30:Int)) * IntKind.i64.wrap ((100:Int) + long % (1500:Int))) + (1:Int)),IntKind.i64.wrap ((1:Int) + step % (500:Int)),near % (60:Int)) (add0 (IntKind.i64.wrap ((1:Int) + count % (30:Int)),IntKind.i64.wrap ((100:Int) + long % (1500:Int)),(300000:Int),(30:Int),(13:Int),(1099511627776:Int),(1099511627776:Int),(0:Int),(0:Int))).fst (0:Int) (8:Int) (1:Int) ((2:Int),(2:Int))) [hoist % (8:Int),(0:Int)] [((0:Int),(7:Int)),((2:Int),(2:Int))] (1:Int)).fst + (1:Int))) (who % (2:Int)) x1_ (0:Int) [hoist % (8:Int),(0:Int)] (1:Int)) (Int.toNat (0:Int)) (0:Int) * IntKind.i64.wrap ((1:Int) + step % (500:Int)))) + near % (60:Int)))) (.need ((0:Nat) = (0:Nat)) (.cond true (.leaf (SV.bool true)) (.leaf (SV.bool false)))) (.leaf (SV.bool false)))) (.leaf (SV.bool false))))))))))))))))))):=by
  subst hx1_; kernel_rfl
def c_TopShut:PC P:=PC.of (α:=Int × Int × Int × Int × Int × Int × Int × Int × Unit) 3 [.val tI,.val tI,.val tI,.val tI,.val tI,.val tI,.val tI,.val tI] (fun x => x) (fun x => x) (fun _ => rfl)
  (fun _ => none)
  (fun x => .bool true) (by kernel_rfl) (by
    rintro ⟨count,long,faces,step,near,hoist,wh,who,⟨⟩⟩ hp
    refine fn_of hm (by kernel_rfl) (by kernel_rfl) (T_TopShut count long faces step near hoist wh who _ rfl) ⟨K_tshut,trivial⟩ ?_
    try dsimp only at hp
    try dsimp only
    have wc:IntKind.i64.wrap (1 + count % 30) = 1 + count % 30:=W_id (by omega) (by omega)
    have wl:IntKind.i64.wrap (100 + long % 1500) = 100 + long % 1500:=W_id (by omega) (by omega)
    have ws:IntKind.i64.wrap (1 + step % 500) = 1 + step % 500:=W_id (by omega) (by omega)
    rw [wc,wl,ws]
    have hc1:1 ≤ 1 + count % 30:=by omega
    have hc2:1 + count % 30 ≤ 30:=by omega
    have hl1:100 ≤ 100 + long % 1500:=by omega
    have hl2:100 + long % 1500 ≤ 1599:=by omega
    have hs1:1 ≤ 1 + step % 500:=by omega
    have hs2:1 + step % 500 ≤ 500:=by omega
    have hn1:0 ≤ near % 60:=by omega
    have hn2:near % 60 ≤ 60:=by omega
    have hh1:0 ≤ hoist % 8:=by omega
    have hh2:hoist % 8 < 8:=by omega
    generalize 1 + count % 30 = c at *
    generalize 100 + long % 1500 = L at *
    generalize 1 + step % 500 = sp at *
    generalize near % 60 = nr at *
    generalize hoist % 8 = a at *
    have hm:=Go.MP.mul_rng (a:=c) (b:=L) (A:=30) (B:=1599) (by omega) hc2 (by omega) hl2
    have wm:IntKind.i64.wrap (c * L) = c * L:=W_id (by omega) (by omega)
    have wm1:IntKind.i64.wrap (c * L + 1) = c * L + 1:=W_id (by omega) (by omega)
    rw [wm,wm1]
    have hf1:0 ≤ faces % (c * L + 1):=Int.emod_nonneg _ (by omega)
    have hf2:faces % (c * L + 1) < c * L + 1:=Int.emod_lt_of_pos _ (by omega)
    have hck:=tube_ok hc1 hc2 hl1 hl2
    have ha:add0 (c,L,300000,30,13,1099511627776,1099511627776,0,0) = ([(c,L,300000,30,13,1099511627776,1099511627776,0,0)],0):=by unfold add0; rw [if_neg (by rw [hck]; simp)]
    rw [ha]
    dsimp only
    generalize faces % (c * L + 1) = f at *
    generalize (c,L,(300000:Int),(30:Int),(13:Int),(1099511627776:Int),(1099511627776:Int),(0:Int),(0:Int)) = t at *
    have hr:ramE (f,sp,nr) [t] 0 8 1 (2,2) = 0:=by
      unfold ramE
      rw [if_neg (by rw [hck]; simp),if_neg (by show ¬ (f < 0 ∨ f > 1048576 ∨ sp < 1 ∨ sp > 4000 ∨ nr < 0 ∨ nr > 100); omega),if_neg (by decide),if_neg (by decide)]
    rw [hr]
    have hb:shearS (f,sp,nr) [t] 0 8 1 (2,2) = bnT f sp nr [t]:=rfl
    rw [hb]
    have hg:=bnT_goal hr
    have hop:=bnT_open hr hh1 hh2
    have far:=fun (x:Int) h => bnT_far hr (a:=x) h
    have hst:=ready_stuck (l:=1) (by decide) hg hop
    have hrng:=tickD_rng [8,3] (bnT f sp nr [t]) gT 1 [a,0]
    have htk:ticksS ([8,3],bnT f sp nr [t]) [a,0] [(0,7),(2,2)] 1 = if tickD [8,3] (bnT f sp nr [t]) gT 1 [a,0] < 0 then (0,13) else (tickD [8,3] (bnT f sp nr [t]) gT 1 [a,0],0):=ticksS_sf (l:=1) hg (by decide) hop
    have hre:=fun (d:Nat) h => (tick_le (ps:=[8,3]) (bs:=bnT f sp nr [t]) (g:=gT) (l:=1) (s:=[a,0]) (d:=d) h).1
    rw [htk]
    clear htk ha
    generalize tickD [8,3] (bnT f sp nr [t]) gT 1 [a,0] = T at *
    by_cases hneg:T < 0
    · obtain ⟨r1,r2⟩:=hst hneg
      rw [if_pos hneg]
      dsimp only
      refine ⟨⟨by decide,by decide,by decide⟩,?_⟩
      refine ⟨⟨by decide,by decide,by decide⟩,?_⟩
      refine ⟨rfl,?_⟩
      refine ⟨fun k => absurd k (by decide),fun _ => ?_⟩
      refine ⟨fun k => absurd k (by simp),fun _ => ?_⟩
      refine ⟨⟨by omega,by unfold Go.MP.R64; omega⟩,?_⟩
      refine ⟨⟨by decide,by decide,by decide⟩,?_⟩
      refine ⟨⟨by decide,by decide,by decide⟩,?_⟩
      refine ⟨by simp,?_⟩
      refine ⟨fun k => absurd k (by decide),fun _ => ?_⟩
      refine ⟨⟨by decide,by decide,by decide⟩,?_⟩
      refine ⟨fun _ => ⟨fun c5 => ⟨fun _ => rfl,fun c6 => ?_⟩,fun c5 => ?_⟩,fun k => absurd k (by decide)⟩
      · exact absurd r2 (of_decide_eq_false c6)
      · have:(readyS ([8,3],bnT f sp nr [t]) gT 1).2.2 = 0:=r1
        rw [show [((0:Int),(7:Int)),(2,2)] = gT from rfl,this] at c5
        exact absurd c5 (by decide)
    · rw [if_neg hneg]
      dsimp only
      have wT:IntKind.i64.wrap (T + 1) = T + 1:=W_id (by omega) (by omega)
      rw [wT,Int.sub_zero]
      have hreT:=hre T.toNat (by omega) (by omega)
      have hw:who % 2 = 0 ∨ who % 2 = 1:=by omega
      obtain ⟨z1,z2⟩:=shR_ok (h8:=rfl) hg (wh:=wh % (T + 1)) hw T.toNat 0 [a,0] 1 (by omega) (.inr rfl) hop hreT
      rw [show [((0:Int),(7:Int)),(2,2)] = gT from rfl]
      have hinv:inv_tshut (wh % (T + 1),who,(),(),(),gT,[a,0],T,1,0,[t],f,sp,nr,[8,3],bnT f sp nr [t],()):=⟨by omega,by omega,by omega,.inr rfl,rfl,rfl,hg,hop,by rw [Int.sub_zero]; exact hreT⟩
      generalize shR ([8,3],bnT f sp nr [t]) gT (wh % (T + 1)) (who % 2) T.toNat 0 [a,0] 1 = z at *
      have zl:z.length = 2:=z1.vs.sl
      obtain ⟨x,y,rfl⟩:=two_of zl
      obtain rfl:y = 2:=z2
      have x0:0 ≤ x ∧ x < 8:=z1.vs.get (i:=0) (show 0 < [(8:Int),3].length by decide)
      have hx:=Go.MP.mul_rng (a:=x) (b:=sp) (A:=8) (B:=500) x0.1 (by omega) (by omega) hs2
      have hfar:=far x z1
      rw [show ([x,2] : List Int).getD (Int.toNat 0) 0 = x from rfl]
      rw [W_id (n:=x * sp) (by omega) (by omega),W_id (n:=f - x * sp) (by omega) (by omega),W_id (n:=f - x * sp - nr) (by omega) (by omega),W_id (n:=f - x * sp + nr) (by omega) (by omega)]
      refine ⟨⟨by decide,by decide,by decide⟩,?_⟩
      refine ⟨⟨by decide,by decide,by decide⟩,?_⟩
      refine ⟨rfl,?_⟩
      refine ⟨fun k => absurd k (by decide),fun _ => ?_⟩
      refine ⟨fun k => absurd k (by simp),fun _ => ?_⟩
      refine ⟨⟨by omega,by unfold Go.MP.R64; omega⟩,?_⟩
      refine ⟨⟨by decide,by decide,by decide⟩,?_⟩
      refine ⟨⟨by decide,by decide,by decide⟩,?_⟩
      refine ⟨by simp,?_⟩
      refine ⟨fun k => absurd k (by decide),fun _ => ?_⟩
      refine ⟨⟨by decide,by decide,by decide⟩,?_⟩
      refine ⟨fun k => absurd k (by decide),fun _ => ?_⟩
      refine ⟨fun k => absurd k (by decide),fun _ => ?_⟩
      refine ⟨⟨by omega,by unfold R64; omega⟩,?_⟩
      refine ⟨hinv,?_⟩
      refine ⟨⟨by decide,by simp⟩,?_⟩
      refine ⟨⟨by decide,by simp⟩,?_⟩
      refine ⟨fun c8 => ?_,fun c8 => absurd c8 (show ¬ ((2:Int) == 2) = false by decide)⟩
      refine ⟨by simp,?_⟩
      refine ⟨fun c9 => ⟨rfl,⟨fun _ => rfl,fun k => absurd k (by decide)⟩⟩,fun c9 => ?_⟩
      rw [show nearS [t] (f - x * sp - nr) (f - x * sp + nr) = false from hfar] at c9
      exact absurd c9 (by decide))
end
end Go.MR
