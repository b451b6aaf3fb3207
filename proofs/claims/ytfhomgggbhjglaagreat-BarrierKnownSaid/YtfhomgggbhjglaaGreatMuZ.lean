/- An entry made of numbers; what an entry does at any site. -/
import Derived.Test.YtfhomgggbhjglaaGreatMuY
namespace Go.MB
open Go Go.Sx Go.Proofs
set_option linter.unusedVariables false
set_option linter.unusedSimpArgs false
noncomputable section
structure NumV (s:Site):Prop where
  tick:0 ≤ s.1 ∧ s.1 ≤ 1099511627776
  crew:1 ≤ s.2.1 ∧ s.2.1 ≤ 20
  hold:0 ≤ s.2.2.1 ∧ s.2.2.1 < s.2.1
  offer:s.2.2.2.1 = -1 ∨ (0 ≤ s.2.2.2.1 ∧ s.2.2.2.1 < s.2.1)
  other:s.2.2.2.1 ≠ s.2.2.1
  press:0 ≤ s.2.2.2.2.1 ∧ s.2.2.2.2.1 ≤ 68719476736
theorem memB_iff {c w:Int}:memB c w = true ↔ 0 ≤ w ∧ w < c:=by
  unfold memB
  rw [Bool.and_eq_true,decide_eq_true_eq,decide_eq_true_eq]
theorem badN_iff {s:Site}:badN s = false ↔ NumV s:=by
  unfold badN
  rw [Bool.or_eq_false_iff,Bool.or_eq_false_iff,Bool.or_eq_false_iff,Bool.or_eq_false_iff,Bool.or_eq_false_iff,Bool.or_eq_false_iff,Bool.not_eq_false',wi_iff,decide_eq_false_iff_not,decide_eq_false_iff_not,Bool.not_eq_false',memB_iff,Bool.and_eq_false_iff,Bool.not_eq_false',memB_iff,Bool.not_eq_false',wi_iff,bne_eq_false_iff_eq,beq_eq_false_iff_ne]
  constructor
  · rintro ⟨h1,h2,h3,h4,h5,h6,h7⟩
    exact ⟨h1,by omega,h4,h5,h6,h7⟩
  · rintro ⟨h1,h2,h4,h5,h6,h7⟩
    exact ⟨h1,by omega,by omega,h4,h5,h6,h7⟩
theorem chkS_num {s:Site} (h:chkS s = 0):NumV s:=by
  unfold chkS at h
  split at h
  · cases h
  · rename_i c
    exact badN_iff.1 (by simpa using c)
def dS (s:Site) (e:Entry):Site × Int:=if chkS s ≠ 0 then (zSite,chkS s) else doG s e
theorem T_DoX (s_0 s_1 s_2 s_3 s_4:Int) (s_5:List (Int × V)) (s_6:List (List Int)) (s_7:Int) (s_8:List (Int × (Int × (Int × Bool)))) (s_9 e_0 e_1 e_2 e_3 e_4 e_5:Int):fnTree (P:=P) [c_Check.gc,c_doX.gc] (lpOf []) Tryz.f16 (encL 0 [.agg (.pair tI (.pair tI (.pair tI (.pair tI (.pair tI (.pair (.pair (.sl (.pair tI tV)) (.pair (.sl tIs) tI)) (.pair (.sl (.pair tI (.pair tI (.pair tI .bool)))) tI))))))),.agg (.pair tI (.pair tI (.pair tI tV)))] ((s_0,(s_1,(s_2,(s_3,(s_4,((s_5,(s_6,s_7)),(s_8,s_9))))))),(e_0,(e_1,(e_2,(e_3,(e_4,e_5))))),())) =
  Tree.need (sOk (s_0,s_1,s_2,s_3,s_4,(s_5,s_6,s_7),s_8,s_9)) (.cond (chkS (s_0,s_1,s_2,s_3,s_4,(s_5,s_6,s_7),s_8,s_9) != (0:Int)) (.leaf (SV.tup [SV.agg [SV.int IntKind.i64 (0:Int),SV.int IntKind.i64 (0:Int),SV.int IntKind.i64 (0:Int),SV.int IntKind.i64 (0:Int),SV.int IntKind.i64 (0:Int),SV.nils,SV.nils,SV.int IntKind.i64 (0:Int),SV.nils,SV.int IntKind.i64 (0:Int)],SV.int IntKind.i64 (chkS (s_0,s_1,s_2,s_3,s_4,(s_5,s_6,s_7),s_8,s_9))])) (.need (sOk (s_0,s_1,s_2,s_3,s_4,(s_5,s_6,s_7),s_8,s_9) ∧ houseE (s_5,s_6,s_7) = (0:Int) ∧ List.length s_8 ≤ (900:Nat)) (.leaf (SV.tup [SV.agg [SV.int IntKind.i64 (doG (s_0,s_1,s_2,s_3,s_4,(s_5,s_6,s_7),s_8,s_9) (e_0,e_1,e_2,e_3,e_4,e_5)).fst.fst,SV.int IntKind.i64 (doG (s_0,s_1,s_2,s_3,s_4,(s_5,s_6,s_7),s_8,s_9) (e_0,e_1,e_2,e_3,e_4,e_5)).fst.snd.fst,SV.int IntKind.i64 (doG (s_0,s_1,s_2,s_3,s_4,(s_5,s_6,s_7),s_8,s_9) (e_0,e_1,e_2,e_3,e_4,e_5)).fst.snd.snd.fst,SV.int IntKind.i64 (doG (s_0,s_1,s_2,s_3,s_4,(s_5,s_6,s_7),s_8,s_9) (e_0,e_1,e_2,e_3,e_4,e_5)).fst.snd.snd.snd.fst,SV.int IntKind.i64 (doG (s_0,s_1,s_2,s_3,s_4,(s_5,s_6,s_7),s_8,s_9) (e_0,e_1,e_2,e_3,e_4,e_5)).fst.snd.snd.snd.snd.fst,SV.sl (Ty.pair tI (Ty.pair tI (Ty.pair tI tI))) (doG (s_0,s_1,s_2,s_3,s_4,(s_5,s_6,s_7),s_8,s_9) (e_0,e_1,e_2,e_3,e_4,e_5)).fst.snd.snd.snd.snd.snd.fst.fst,SV.sl (Ty.sl tI) (doG (s_0,s_1,s_2,s_3,s_4,(s_5,s_6,s_7),s_8,s_9) (e_0,e_1,e_2,e_3,e_4,e_5)).fst.snd.snd.snd.snd.snd.fst.snd.fst,SV.int IntKind.i64 (doG (s_0,s_1,s_2,s_3,s_4,(s_5,s_6,s_7),s_8,s_9) (e_0,e_1,e_2,e_3,e_4,e_5)).fst.snd.snd.snd.snd.snd.fst.snd.snd,SV.sl (Ty.pair tI (Ty.pair tI (Ty.pair tI Ty.bool))) (doG (s_0,s_1,s_2,s_3,s_4,(s_5,s_6,s_7),s_8,s_9) (e_0,e_1,e_2,e_3,e_4,e_5)).fst.snd.snd.snd.snd.snd.snd.fst,SV.int IntKind.i64 (doG (s_0,s_1,s_2,s_3,s_4,(s_5,s_6,s_7),s_8,s_9) (e_0,e_1,e_2,e_3,e_4,e_5)).fst.snd.snd.snd.snd.snd.snd.snd],SV.int IntKind.i64 (doG (s_0,s_1,s_2,s_3,s_4,(s_5,s_6,s_7),s_8,s_9) (e_0,e_1,e_2,e_3,e_4,e_5)).snd])))):=by kernel_rfl
def c_DoX:PC P:=PC.of (α:=(Int × (Int × (Int × (Int × (Int × ((List (Int × V) × (List (List Int) × Int)) × (List (Int × (Int × (Int × Bool))) × Int))))))) × (Int × (Int × (Int × V))) × Unit) 16 [.agg (.pair tI (.pair tI (.pair tI (.pair tI (.pair tI (.pair (.pair (.sl (.pair tI tV)) (.pair (.sl tIs) tI)) (.pair (.sl (.pair tI (.pair tI (.pair tI .bool)))) tI))))))),.agg (.pair tI (.pair tI (.pair tI tV)))] (fun x => x) (fun x => x) (fun _ => rfl)
  (fun x => some (sOk x.1 ∧ x.1.2.2.2.2.2.2.1.length ≤ 900))
  (fun x => resG (dS x.1 x.2.1)) (by kernel_rfl) (by
    rintro ⟨⟨s_0,⟨s_1,⟨s_2,⟨s_3,⟨s_4,⟨⟨s_5,⟨s_6,s_7⟩⟩,⟨s_8,s_9⟩⟩⟩⟩⟩⟩⟩,⟨e_0,⟨e_1,⟨e_2,⟨e_3,⟨e_4,e_5⟩⟩⟩⟩⟩,⟨⟩⟩ hp
    refine fn_le hm (by kernel_rfl) (by kernel_rfl) (T_DoX s_0 s_1 s_2 s_3 s_4 s_5 s_6 s_7 s_8 s_9 e_0 e_1 e_2 e_3 e_4 e_5) trivial (by kernel_rfl) ?_
    try dsimp only at hp
    try dsimp only
    obtain ⟨hs,hl⟩ : sOk (s_0,s_1,s_2,s_3,s_4,(s_5,s_6,s_7),s_8,s_9) ∧ s_8.length ≤ 900:=hp
    unfold dS
    refine ⟨hs,⟨fun c => ?_,fun c => ⟨⟨hs,?_,hl⟩,?_⟩⟩⟩
    · have d:=bneT c
      rw [if_pos d]
      exact leS_bad _
    · exact chkS_house (bneF c)
    · have d:=bneF c
      rw [if_neg (fun k => k d)]
      exact leS_good _)
end
end Go.MB
