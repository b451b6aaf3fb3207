/- A copy of a site lies in new memory: the contract. -/
import Derived.Test.YtfhomgggbhjglaaMbAi
namespace Go.MB
open Go Go.Sx Go.Proofs
set_option linter.unusedVariables false
set_option linter.unusedSimpArgs false
noncomputable section
def CpR (w:World) (t c h o p n k:Int) (es:List E4) (vs:List (List Int)) (ps:List Pm) (e:Ending) (w' : World):Prop :=
  ∃ v,e = .returned v ∧ Frm w (fun _ => False) w' ∧ ∃ E U H,HSat w (fun _ => False) E U H w' ∧ H 7041 = some (.row 44 tPm ps) ∧ H 12041 = some (.row 70 tEl es) ∧ (∀ b,E.I b → w.heap.size ≤ b) ∧ Rep E U w' (.agg (siteN t c h o p n k es vs ps)) v
set_option maxRecDepth 100000 in
theorem copy_new {t c h o p n k:Int} {es:List E4} {vs:List (List Int)} {ps:List Pm} (hes:es.length ≤ 1000) (hvs:vs.length ≤ 1000) (ha:∀ q ∈ vs,q.length ≤ 1000) (hps:ps.length ≤ 1000) {I:Nat → Prop} {w:World} {vals:List Value}
    (hI:∀ b,I b → b < w.heap.size) (hr:RepL (E0 I) noU w (encL 0 [.agg tSite] ((t,c,h,o,p,(es,vs,n),ps,k),())) vals):Calls P 39 vals.toArray w (CpR w t c h o p n k es vs ps):=by
  have hf:P.funcs[39]? = some Try.f39:=by kernel_rfl
  have hc:Try.f39.body = some bCopy:=by kernel_rfl
  have hn:Try.f39.ntmps = 41:=by kernel_rfl
  have hcut:cut2 4 bCopy = .seq xCopy eCopy:=by kernel_rfl
  have hx:xCopy = .seq (cFst xCopy) lCopy:=by kernel_rfl
  refine (callsIn_wide (n:=0)).1 (callsIn_of_wp_marks (F:=FR none) hf hc trivial ?_ rfl)
  rw [hn]
  have hsat:=start_sat (n:=41) hI (by show 1 ≤ 41; decide) hr
  refine execCut hm (r0:=none) (u0:=noU) (cx:=[c_cpP.gc,c_cpE.gc,c_cloneV.gc]) (lp:=fun _ => none) (ys:=[]) (B:=⟨w,fun _ => False,E0 I,noU,41,[]⟩) (Q:=fun x => x = cpObs t c h o p es vs n ps k) (fun k hk => by cases hk) (fun h hh => by cases hh) 4 bCopy 0
    (argSt (encL 0 [.agg tSite] ((t,c,h,o,p,(es,vs,n),ps,k),()))) (fun _ => none) kCpA _ (loopsCp _ _ _ _) (kInv_none _ _) ?_ ?_ _ w ⟨E0 I,hsat⟩
  · rw [T_cpA]
    exact ⟨hps,hes,hvs,rfl⟩
  · intro e S' K' a w1 hK' hs' hk
    cases e with
    | normal =>
      show (cut2 4 bCopy).wpIn (FR none) 0 P _ a w1
      rw [hcut]
      refine wpIn_seq ?_
      rw [hx]
      refine wpIn_seq (execC_ok hm (r0:=none) (u0:=noU) (cx:=[]) (lp:=fun _ => none) (ys:=[]) (B:=⟨w,fun _ => False,E0 I,noU,41,[]⟩) (Q:=fun x => x = cpObs t c h o p es vs n ps k) (fun k hk => by cases hk) (fun h hh => by cases hh) (cFst xCopy) 0 S' K'
        (fun e S _ => obs [1,2,23,24] [2041,3041,7041,12041,18041] [2041,3041,7041,12041,18041] e S) _ (loopsCp _ _ _ _) hK' hk ?_ a w1 hs')
      intro e S4 K4 a4 w4 _ hs4 hk4
      have hq:=obs_holds hk4
      obtain ⟨E4',hsE⟩:=hs4
      have he:e = .normal:=congrArg (·.1) hq
      subst he
      obtain ⟨b0,cap,xs,hb,hC,hA⟩:=cp_start hsE _ hq hvs ha
      show lCopy.wpIn (FR none) 0 P _ a4 w4
      refine wpIn_mono (cp_loop hC hA) ?_
      rintro e a5 w5 ⟨rfl,hA5⟩
      show eCopy.wpIn (FR none) 0 P _ a5 w5
      refine wpIn_mono (cp_tail hsE _ hq hb hC hA5) ?_
      rintro e a6 w6 ⟨rfl,⟨B,E,S,hsE6,hBn,hm6,hres,q1,q2,hI6,hl6⟩,f6⟩
      show LeavesInM (FR none) 0 P _ a6.tmps _ a6.defers .returning w6
      rw [← hBn] at hres
      refine leaves_of hsE6 hm6 hres fun v w7 g1 g2 g3 g4 g5 g6 hs7 hrep => ?_
      refine ⟨v,rfl,?_,E,S.used,fun j => if j = 7041 ∨ j = 12041 then S.heap j else none,?_,(if_pos (.inl rfl)).trans q1,(if_pos (.inr rfl)).trans q2,hI6,hrep⟩
      · exact ⟨g1.trans f6.os,g2.trans f6.tape,g3.trans f6.output,by rw [g5]; exact f6.size,by rw [g4]; exact f6.drawn,fun b hb hM => (g6 b fun hN => absurd hb (Nat.not_lt.2 hN)).trans (f6.block b hb hM)⟩
      · have hlv:∀ j,Live E (fun j => if j = 7041 ∨ j = 12041 then S.heap j else none) j → (j = 7041 ∨ j = 12041) ∧ Live E S.heap j:=by
          rintro j ⟨o',ho',hl⟩
          dsimp only at ho'
          split at ho'
          · rename_i hj; exact ⟨hj,o',ho',hl⟩
          · cases ho'
        refine ⟨fun j o' hj => ?_,fun i j hi hj he => hs7.inj i j (hlv i hi).2 (hlv j hj).2 he,fun j hj => hs7.imm j (hlv j hj).2,hs7.lt,fun j hj => .inr (hl6 j (hlv j hj).1 (hlv j hj).2),?_⟩
        · split at hj
          · exact hs7.ob j o' hj
          · cases hj
        · exact ⟨g1.trans f6.os,g2.trans f6.tape,g3.trans f6.output,by rw [g5]; exact f6.size,by rw [g4]; exact f6.drawn,fun b hb hM => (g6 b fun hN => absurd hb (Nat.not_lt.2 hN)).trans (f6.block b hb hM)⟩
    | _ => exact hk.elim
theorem row_data {w0:World} {M:Nat → Prop} {E:En} {U:Nat → Bool} {H:Hp} {w:World} (hs:HSat w0 M E U H w) {j:Nat} {e:TypeId} {t:Ty} {l:List t.den} (h:H j = some (.row e t l)) (hf:t.flat = true) {I:Nat → Prop} (hI:Live E H j → I (E.ρ j)):Rep (E0 I) noU w (.sl t l) (E.sv j):=by
  obtain ⟨_,xs,how,hfl,hsv⟩:=hs.ob j _ h
  unfold Rep
  refine ⟨_,rfl,ownR_cells how (Flat.flat hf _ _ hfl) fun b hb => ?_⟩
  rcases hsv with hn | ⟨cp,hsv⟩
  · rw [hn] at hb; cases hb
  · rw [hsv] at hb
    cases hb
    exact hI ⟨_,h,by show E.sv j ≠ _; rw [hsv]; simp⟩
theorem copy_fresh {t c h o p n k:Int} {es:List E4} {vs:List (List Int)} {ps:List Pm} (hes:es.length ≤ 1000) (hvs:vs.length ≤ 1000) (ha:∀ q ∈ vs,q.length ≤ 1000) (hps:ps.length ≤ 1000) :
    FreshOk P 39 (encL 0 [.agg tSite] ((t,c,h,o,p,(es,vs,n),ps,k),())) (.agg [.int .i64 t,.int .i64 c,.int .i64 h,.int .i64 o,.int .i64 p,.sl tEl es,.sl tIs vs,.int .i64 n,.sl tPm ps,.int .i64 k]):=by
  intro I w vals hI hr
  refine (copy_new hes hvs ha hps hI hr).mono ?_
  rintro e w' ⟨v,rfl,hf,E,U,H,hs,h1,h2,hN,hrep⟩
  let J:Nat → Prop:=fun b => E.I b ∨ ∃ j,Live E H j ∧ E.ρ j = b
  refine ⟨rfl,v,rfl,hf,J,?_,?_,?_⟩
  · rintro b (hb | ⟨j,hj,rfl⟩)
    · exact hN b hb
    · exact (hs.mine j hj).elim (fun h => h.elim) id
  · rintro b (hb | ⟨j,hj,rfl⟩)
    · exact hs.lt b hb
    · exact hs.liveLt hj
  · unfold Rep at hrep ⊢
    obtain ⟨us,e,hl⟩:=hrep
    refine ⟨us,e,?_⟩
    unfold RepL at hl
    obtain ⟨v0,r,rfl,g0,hl⟩:=hl
    unfold RepL at hl
    obtain ⟨v1,r,rfl,g1,hl⟩:=hl
    unfold RepL at hl
    obtain ⟨v2,r,rfl,g2,hl⟩:=hl
    unfold RepL at hl
    obtain ⟨v3,r,rfl,g3,hl⟩:=hl
    unfold RepL at hl
    obtain ⟨v4,r,rfl,g4,hl⟩:=hl
    unfold RepL at hl
    obtain ⟨v5,r,rfl,g5,hl⟩:=hl
    unfold RepL at hl
    obtain ⟨v6,r,rfl,g6,hl⟩:=hl
    unfold RepL at hl
    obtain ⟨v7,r,rfl,g7,hl⟩:=hl
    unfold RepL at hl
    obtain ⟨v8,r,rfl,g8,hl⟩:=hl
    unfold RepL at hl
    obtain ⟨v9,r,rfl,g9,hl⟩:=hl
    unfold RepL at hl
    subst hl
    have fi:∀ {n:Int} {v:Value},Rep E U w' (.int .i64 n) v → Rep (E0 J) noU w' (.int .i64 n) v:=fun h => by unfold Rep at h ⊢; exact h
    refine RepL.cons (fi g0) (RepL.cons (fi g1) (RepL.cons (fi g2) (RepL.cons (fi g3) (RepL.cons (fi g4) (RepL.cons ?_ (RepL.cons ?_ (RepL.cons (fi g7) (RepL.cons ?_ (RepL.cons (fi g9) RepL.nil)))))))))
    · unfold Rep at g5
      rw [g5.2.1]
      exact row_data hs h2 rfl fun hl => .inr ⟨_,hl,rfl⟩
    · unfold Rep at g6 ⊢
      exact DRep.mono (fun b hb => .inl hb) (fun _ _ => rfl) _ _ _ g6
    · unfold Rep at g8
      rw [g8.2.1]
      exact row_data hs h1 rfl fun hl => .inr ⟨_,hl,rfl⟩
end
end Go.MB
