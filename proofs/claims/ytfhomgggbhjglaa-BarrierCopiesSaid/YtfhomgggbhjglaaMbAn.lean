/- The law BarrierCopies: its loops over the copy keep the shape, and what is older. -/
import Derived.Test.YtfhomgggbhjglaaMbAm
namespace Go.MB
open Go Go.Sx Go.Proofs
set_option linter.unusedVariables false
set_option linter.unusedSimpArgs false
noncomputable section
instance:Inhabited Oper:=⟨{ op:=.move (.tmp 0),dst:=none,type:=0,pos:=default,after:=#[],guard:=none }⟩
theorem holds_eq {β:Type} {Q:β → Prop} {t t' : Tree β} (h:t = t') (h' : t'.holds Q):t.holds Q:=h ▸ h'
def lenE (d:Site):Int:=d.2.2.2.2.2.1.1.length
theorem lenE_sh (d d' : Site) (h:SameSh tSite d d'):lenE d' = lenE d:=congrArg Int.ofNat h.2.2.2.2.2.1.1.1
def lenV (d:Site):Int:=d.2.2.2.2.2.1.2.1.length
theorem lenV_sh (d d' : Site) (h:SameSh tSite d d'):lenV d' = lenV d:=congrArg Int.ofNat h.2.2.2.2.2.1.2.1.1
def lenP (d:Site):Int:=d.2.2.2.2.2.2.1.length
theorem lenP_sh (d d' : Site) (h:SameSh tSite d d'):lenP d' = lenP d:=congrArg Int.ofNat h.2.2.2.2.2.2.1.1
set_option maxRecDepth 100000 in
theorem lp1_ok {E1:En} {Nm:Nat} {K:Nat → Prop} {N:Nat} {w0:World} {d:Site} {a:Act} {w:World} (hb:lenE d ≤ 1000) (h:Scr E1 [3111,6111] Nm K N 111 w0 [(7,.int .i64 0),(6,.adr tSite d),(2,.ptr 3111 0),(5,.ptr 6111 0)] a w) :
    lp1.wpIn (FR none) 0 P (fun e a' w' => e = .normal ∧ ∃ d' : Site,SameSh tSite d d' ∧ Scr E1 [3111,6111] Nm K N 111 w0 [(6,.adr tSite d'),(2,.ptr 3111 0),(5,.ptr 6111 0)] a' w') a w:=by
  have e0:lp1 = .block 0 (.loop b1):=by kernel_rfl
  have e1:b1 = .seq (cFst b1) (.seq (.block 1 w1) (cSnd (cSnd b1))):=by kernel_rfl
  have e3:w1 = .region 10 (arrOf w1) false:=by kernel_rfl
  rw [e0]
  refine Scr.loop (fx:=[(2,.ptr 3111 0),(5,.ptr 6111 0)]) (key:=7) (dk:=6) (T:=tSite) (by decide) lenE lenE_sh (d0:=d) (fun (d1:Site) hd i a w hi hs => ?_) h
  have hl:=lenE_sh d d1 hd
  rw [e1]
  refine wpIn_seq (wpIn_mono (hs.code hm 0 (cFst b1) (keys:=[7,6,2,5]) (Q:=fun x => (i < lenE d1 ∧ x = (.normal,[.int .i64 i,.adr tSite d1,.ptr 3111 0,.ptr 6111 0],[],[])) ∨ x = (.exit 0,[.int .i64 i,.adr tSite d1,.ptr 3111 0,.ptr 6111 0],[],[])) ?_) ?_)
  · refine holds_eq (T_1a d1 i) ?_
    exact ⟨fun c => Or.inl ⟨of_decide_eq_true c,rfl⟩,fun c => Or.inr rfl⟩
  rintro e a1 w1' ⟨svs,⟨hlt,hq⟩ | hq,hscr⟩
  · injection hq with he hq
    injection hq with hsv _
    subst he
    subst hsv
    have h1:Scr E1 [3111,6111] Nm K N 111 w0 [(7,.int .i64 i),(6,.adr tSite d1),(2,.ptr 3111 0),(5,.ptr 6111 0)] a1 w1':=hscr rfl rfl
    have key:=h1.write (P:=P) (id:=10) (ops:=arrOf w1) (pre:=(opsOf w1).take 10) (o:=(opsOf w1).getD 10 default) (t:=2) (tx:=58) (ty:=56) (by kernel_rfl) (by kernel_rfl) (by kernel_rfl) (by kernel_rfl) (by kernel_rfl)
      (key:=6) (keys:=[7,2,5]) (T:=tSite) (d:=d1) (rs:=[(7,.int .i64 i),(2,.ptr 3111 0),(5,.ptr 6111 0)]) (k:=.i64) (m:=(d1.2.2.2.2.2.1.1.getD i.toNat (0,0,0,0)).2.2.2) (m':=IntKind.wrap .i64 ((d1.2.2.2.2.2.1.1.getD i.toNat (0,0,0,0)).2.2.2 + 1)) rfl rfl rfl (by decide) (by decide) (by decide) rfl
      (by
        refine holds_eq (T_1b d1 i) ?_
        exact ⟨⟨hi,hlt⟩,⟨hi,hlt⟩,rfl⟩)
    rw [← e3] at key
    show (Code.seq (.block 1 w1) (cSnd (cSnd b1))).wpIn (FR none) 0 P _ a1 w1'
    refine wpIn_seq (wpIn_block (wpIn_mono key ?_))
    rintro e a2 w2 ⟨rfl,(d2:Site),hd2,h2⟩
    show (cSnd (cSnd b1)).wpIn (FR none) 0 P _ a2 w2
    refine wpIn_mono (h2.code hm 0 (cSnd (cSnd b1)) (keys:=[7,6,2,5]) (Q:=fun x => x = (.normal,[.int .i64 (i + 1),.adr tSite d2,.ptr 3111 0,.ptr 6111 0],[],[])) ?_) ?_
    · refine holds_eq (T_1c d2 i) ?_
      rw [W_id (by omega) (by omega)]
      exact rfl
    · rintro e a3 w3 ⟨svs,hq,hscr⟩
      injection hq with he hq
      injection hq with hsv _
      subst he
      subst hsv
      exact ⟨d2,hd2,.inr ⟨rfl,hlt,hscr rfl rfl⟩⟩
  · injection hq with he hq
    injection hq with hsv _
    subst he
    subst hsv
    have h1:Scr E1 [3111,6111] Nm K N 111 w0 [(7,.int .i64 i),(6,.adr tSite d1),(2,.ptr 3111 0),(5,.ptr 6111 0)] a1 w1':=hscr rfl rfl
    refine ⟨d1,SameSh.refl _ _,.inl ⟨rfl,h1.pick fun p hp => ?_⟩⟩
    simp only [List.mem_cons,List.not_mem_nil,or_false] at hp
    rcases hp with rfl | rfl | rfl <;> exact ⟨by simp,rfl,rfl⟩
set_option maxRecDepth 100000 in
theorem lp6_ok {E1:En} {Nm:Nat} {K:Nat → Prop} {N:Nat} {w0:World} {d:Site} {a:Act} {w:World} (hb:lenP d ≤ 1000) (h:Scr E1 [3111,6111] Nm K N 111 w0 [(10,.int .i64 0),(6,.adr tSite d),(2,.ptr 3111 0),(5,.ptr 6111 0)] a w) :
    lp6.wpIn (FR none) 0 P (fun e a' w' => e = .normal ∧ ∃ d' : Site,SameSh tSite d d' ∧ Scr E1 [3111,6111] Nm K N 111 w0 [(6,.adr tSite d'),(2,.ptr 3111 0),(5,.ptr 6111 0)] a' w') a w:=by
  have e0:lp6 = .block 6 (.loop b6):=by kernel_rfl
  have e1:b6 = .seq (cFst b6) (.seq (.block 7 w6) (cSnd (cSnd b6))):=by kernel_rfl
  have e3:w6 = .region 21 (arrOf w6) false:=by kernel_rfl
  rw [e0]
  refine Scr.loop (fx:=[(2,.ptr 3111 0),(5,.ptr 6111 0)]) (key:=10) (dk:=6) (T:=tSite) (by decide) lenP lenP_sh (d0:=d) (fun (d1:Site) hd i a w hi hs => ?_) h
  have hl:=lenP_sh d d1 hd
  rw [e1]
  refine wpIn_seq (wpIn_mono (hs.code hm 6 (cFst b6) (keys:=[10,6,2,5]) (Q:=fun x => (i < lenP d1 ∧ x = (.normal,[.int .i64 i,.adr tSite d1,.ptr 3111 0,.ptr 6111 0],[],[])) ∨ x = (.exit 6,[.int .i64 i,.adr tSite d1,.ptr 3111 0,.ptr 6111 0],[],[])) ?_) ?_)
  · refine holds_eq (T_6a d1 i) ?_
    exact ⟨fun c => Or.inl ⟨of_decide_eq_true c,rfl⟩,fun c => Or.inr rfl⟩
  rintro e a1 w1' ⟨svs,⟨hlt,hq⟩ | hq,hscr⟩
  · injection hq with he hq
    injection hq with hsv _
    subst he
    subst hsv
    have h1:Scr E1 [3111,6111] Nm K N 111 w0 [(10,.int .i64 i),(6,.adr tSite d1),(2,.ptr 3111 0),(5,.ptr 6111 0)] a1 w1':=hscr rfl rfl
    have key:=h1.write (P:=P) (id:=21) (ops:=arrOf w6) (pre:=(opsOf w6).take 9) (o:=(opsOf w6).getD 9 default) (t:=2) (tx:=104) (ty:=102) (by kernel_rfl) (by kernel_rfl) (by kernel_rfl) (by kernel_rfl) (by kernel_rfl)
      (key:=6) (keys:=[10,2,5]) (T:=tSite) (d:=d1) (rs:=[(10,.int .i64 i),(2,.ptr 3111 0),(5,.ptr 6111 0)]) (k:=.i64) (m:=(d1.2.2.2.2.2.2.1.getD i.toNat (0,0,0,false)).2.2.1) (m':=IntKind.wrap .i64 ((d1.2.2.2.2.2.2.1.getD i.toNat (0,0,0,false)).2.2.1 + 1)) rfl rfl rfl (by decide) (by decide) (by decide) rfl
      (by
        refine holds_eq (T_6b d1 i) ?_
        exact ⟨⟨hi,hlt⟩,⟨hi,hlt⟩,rfl⟩)
    rw [← e3] at key
    show (Code.seq (.block 7 w6) (cSnd (cSnd b6))).wpIn (FR none) 0 P _ a1 w1'
    refine wpIn_seq (wpIn_block (wpIn_mono key ?_))
    rintro e a2 w2 ⟨rfl,(d2:Site),hd2,h2⟩
    show (cSnd (cSnd b6)).wpIn (FR none) 0 P _ a2 w2
    refine wpIn_mono (h2.code hm 6 (cSnd (cSnd b6)) (keys:=[10,6,2,5]) (Q:=fun x => x = (.normal,[.int .i64 (i + 1),.adr tSite d2,.ptr 3111 0,.ptr 6111 0],[],[])) ?_) ?_
    · refine holds_eq (T_6c d2 i) ?_
      rw [W_id (by omega) (by omega)]
      exact rfl
    · rintro e a3 w3 ⟨svs,hq,hscr⟩
      injection hq with he hq
      injection hq with hsv _
      subst he
      subst hsv
      exact ⟨d2,hd2,.inr ⟨rfl,hlt,hscr rfl rfl⟩⟩
  · injection hq with he hq
    injection hq with hsv _
    subst he
    subst hsv
    have h1:Scr E1 [3111,6111] Nm K N 111 w0 [(10,.int .i64 i),(6,.adr tSite d1),(2,.ptr 3111 0),(5,.ptr 6111 0)] a1 w1':=hscr rfl rfl
    refine ⟨d1,SameSh.refl _ _,.inl ⟨rfl,h1.pick fun p hp => ?_⟩⟩
    simp only [List.mem_cons,List.not_mem_nil,or_false] at hp
    rcases hp with rfl | rfl | rfl <;> exact ⟨by simp,rfl,rfl⟩
def lenR (j:Int) (d:Site):Int:=(d.2.2.2.2.2.1.2.1.getD j.toNat []).length
theorem lenR_sh (j:Int) (d d' : Site) (h:SameSh tSite d d'):lenR j d' = lenR j d:=by
  have h1:SameSh tIss d.2.2.2.2.2.1.2.1 d'.2.2.2.2.2.1.2.1:=h.2.2.2.2.2.1.2.1
  unfold lenR
  generalize d.2.2.2.2.2.1.2.1 = l at *
  generalize d'.2.2.2.2.2.1.2.1 = l' at *
  obtain ⟨hl,hr⟩:=h1
  have hl:l'.length = l.length:=hl
  rw [List.getD_eq_getElem?_getD,List.getD_eq_getElem?_getD]
  by_cases hj:j.toNat < l.length
  · have hj' : j.toNat < l'.length:=by omega
    have:=(hr j.toNat l[j.toNat] l'[j.toNat] (List.getElem?_eq_getElem hj) (List.getElem?_eq_getElem hj')).1
    rw [List.getElem?_eq_getElem hj,List.getElem?_eq_getElem hj']
    exact congrArg Int.ofNat this
  · rw [List.getElem?_eq_none (by omega),List.getElem?_eq_none (by omega)]
set_option maxRecDepth 100000 in
theorem lp4_ok {E1:En} {Nm:Nat} {K:Nat → Prop} {N:Nat} {w0:World} {d:Site} {a:Act} {w:World} {j:Int} (hj:0 ≤ j ∧ j < lenV d) (hb:lenR j d ≤ 1000) (h:Scr E1 [3111,6111] Nm K N 111 w0 [(9,.int .i64 0),(6,.adr tSite d),(8,.int .i64 j),(2,.ptr 3111 0),(5,.ptr 6111 0)] a w) :
    lp4.wpIn (FR none) 0 P (fun e a' w' => e = .normal ∧ ∃ d' : Site,SameSh tSite d d' ∧ Scr E1 [3111,6111] Nm K N 111 w0 [(6,.adr tSite d'),(8,.int .i64 j),(2,.ptr 3111 0),(5,.ptr 6111 0)] a' w') a w:=by
  have e0:lp4 = .block 4 (.loop b4):=by kernel_rfl
  have e1:b4 = .seq (cFst b4) (.seq (.block 5 w4) (cSnd (cSnd b4))):=by kernel_rfl
  have e3:w4 = .region 17 (arrOf w4) false:=by kernel_rfl
  rw [e0]
  refine Scr.loop (fx:=[(8,.int .i64 j),(2,.ptr 3111 0),(5,.ptr 6111 0)]) (key:=9) (dk:=6) (T:=tSite) (by decide) (lenR j) (lenR_sh j) (d0:=d) (fun (d1:Site) hd i a w hi hs => ?_) h
  have hl:=lenR_sh j d d1 hd
  have hv:=lenV_sh d d1 hd
  have hj1:0 ≤ j ∧ j < lenV d1:=by rw [hv]; exact hj
  rw [e1]
  refine wpIn_seq (wpIn_mono (hs.code hm 4 (cFst b4) (keys:=[9,6,8,2,5]) (Q:=fun x => (i < lenR j d1 ∧ x = (.normal,[.int .i64 i,.adr tSite d1,.int .i64 j,.ptr 3111 0,.ptr 6111 0],[],[])) ∨ x = (.exit 4,[.int .i64 i,.adr tSite d1,.int .i64 j,.ptr 3111 0,.ptr 6111 0],[],[])) ?_) ?_)
  · refine holds_eq (T_4a d1 j i) ?_
    exact ⟨hj1,fun c => Or.inl ⟨of_decide_eq_true c,rfl⟩,fun c => Or.inr rfl⟩
  rintro e a1 w1' ⟨svs,⟨hlt,hq⟩ | hq,hscr⟩
  · injection hq with he hq
    injection hq with hsv _
    subst he
    subst hsv
    have h1:Scr E1 [3111,6111] Nm K N 111 w0 [(9,.int .i64 i),(6,.adr tSite d1),(8,.int .i64 j),(2,.ptr 3111 0),(5,.ptr 6111 0)] a1 w1':=hscr rfl rfl
    have key:=h1.write (P:=P) (id:=17) (ops:=arrOf w4) (pre:=(opsOf w4).take 11) (o:=(opsOf w4).getD 11 default) (t:=3) (tx:=88) (ty:=87) (by kernel_rfl) (by kernel_rfl) (by kernel_rfl) (by kernel_rfl) (by kernel_rfl)
      (key:=6) (keys:=[9,8,2,5]) (T:=tSite) (d:=d1) (rs:=[(9,.int .i64 i),(8,.int .i64 j),(2,.ptr 3111 0),(5,.ptr 6111 0)]) (k:=.i64) (m:=(d1.2.2.2.2.2.1.2.1.getD j.toNat []).getD i.toNat 0) (m':=IntKind.wrap .i64 ((d1.2.2.2.2.2.1.2.1.getD j.toNat []).getD i.toNat 0 + 1)) rfl rfl rfl (by decide) (by decide) (by decide) rfl
      (by
        refine holds_eq (T_4b d1 j i) ?_
        exact ⟨hj1,⟨hi,hlt⟩,⟨hi,hlt⟩,rfl⟩)
    rw [← e3] at key
    show (Code.seq (.block 5 w4) (cSnd (cSnd b4))).wpIn (FR none) 0 P _ a1 w1'
    refine wpIn_seq (wpIn_block (wpIn_mono key ?_))
    rintro e a2 w2 ⟨rfl,(d2:Site),hd2,h2⟩
    show (cSnd (cSnd b4)).wpIn (FR none) 0 P _ a2 w2
    refine wpIn_mono (h2.code hm 4 (cSnd (cSnd b4)) (keys:=[9,6,8,2,5]) (Q:=fun x => x = (.normal,[.int .i64 (i + 1),.adr tSite d2,.int .i64 j,.ptr 3111 0,.ptr 6111 0],[],[])) ?_) ?_
    · refine holds_eq (T_4c d2 j i) ?_
      rw [W_id (by omega) (by omega)]
      exact rfl
    · rintro e a3 w3 ⟨svs,hq,hscr⟩
      injection hq with he hq
      injection hq with hsv _
      subst he
      subst hsv
      exact ⟨d2,hd2,.inr ⟨rfl,hlt,hscr rfl rfl⟩⟩
  · injection hq with he hq
    injection hq with hsv _
    subst he
    subst hsv
    have h1:Scr E1 [3111,6111] Nm K N 111 w0 [(9,.int .i64 i),(6,.adr tSite d1),(8,.int .i64 j),(2,.ptr 3111 0),(5,.ptr 6111 0)] a1 w1':=hscr rfl rfl
    refine ⟨d1,SameSh.refl _ _,.inl ⟨rfl,h1.pick fun p hp => ?_⟩⟩
    simp only [List.mem_cons,List.not_mem_nil,or_false] at hp
    rcases hp with rfl | rfl | rfl | rfl <;> exact ⟨by simp,rfl,rfl⟩
set_option maxRecDepth 100000 in
theorem lp2_ok {E1:En} {Nm:Nat} {K:Nat → Prop} {N:Nat} {w0:World} {d:Site} {a:Act} {w:World} (hb:lenV d ≤ 1000) (hr:∀ j,lenR j d ≤ 1000) (h:Scr E1 [3111,6111] Nm K N 111 w0 [(8,.int .i64 0),(6,.adr tSite d),(2,.ptr 3111 0),(5,.ptr 6111 0)] a w) :
    lp2.wpIn (FR none) 0 P (fun e a' w' => e = .normal ∧ ∃ d' : Site,SameSh tSite d d' ∧ Scr E1 [3111,6111] Nm K N 111 w0 [(6,.adr tSite d'),(2,.ptr 3111 0),(5,.ptr 6111 0)] a' w') a w:=by
  have e0:lp2 = .block 2 (.loop b2):=by kernel_rfl
  have e1:b2 = .seq (cFst b2) (.seq (.block 3 (.seq (cFst (cIn (cFst (cSnd b2)))) lp4)) (cSnd (cSnd b2))):=by kernel_rfl
  rw [e0]
  refine Scr.loop (fx:=[(2,.ptr 3111 0),(5,.ptr 6111 0)]) (key:=8) (dk:=6) (T:=tSite) (by decide) lenV lenV_sh (d0:=d) (fun (d1:Site) hd i a w hi hs => ?_) h
  have hl:=lenV_sh d d1 hd
  rw [e1]
  refine wpIn_seq (wpIn_mono (hs.code hm 2 (cFst b2) (keys:=[8,6,2,5]) (Q:=fun x => (i < lenV d1 ∧ x = (.normal,[.int .i64 i,.adr tSite d1,.ptr 3111 0,.ptr 6111 0],[],[])) ∨ x = (.exit 2,[.int .i64 i,.adr tSite d1,.ptr 3111 0,.ptr 6111 0],[],[])) ?_) ?_)
  · refine holds_eq (T_2a d1 i) ?_
    exact ⟨fun c => Or.inl ⟨of_decide_eq_true c,rfl⟩,fun c => Or.inr rfl⟩
  rintro e a1 w1' ⟨svs,⟨hlt,hq⟩ | hq,hscr⟩
  · injection hq with he hq
    injection hq with hsv _
    subst he
    subst hsv
    have h1:Scr E1 [3111,6111] Nm K N 111 w0 [(8,.int .i64 i),(6,.adr tSite d1),(2,.ptr 3111 0),(5,.ptr 6111 0)] a1 w1':=hscr rfl rfl
    show (Code.seq (.block 3 (.seq (cFst (cIn (cFst (cSnd b2)))) lp4)) (cSnd (cSnd b2))).wpIn (FR none) 0 P _ a1 w1'
    refine wpIn_seq (wpIn_block (wpIn_seq (wpIn_mono (h1.code hm 3 (cFst (cIn (cFst (cSnd b2)))) (keys:=[9,6,8,2,5]) (Q:=fun x => x = (.normal,[.int .i64 0,.adr tSite d1,.int .i64 i,.ptr 3111 0,.ptr 6111 0],[],[])) ?_) ?_)))
    · refine holds_eq (T_2b d1 i) ?_
      exact rfl
    rintro e a2 w2 ⟨svs,hq,hscr⟩
    injection hq with he hq
    injection hq with hsv _
    subst he
    subst hsv
    have h2:Scr E1 [3111,6111] Nm K N 111 w0 [(9,.int .i64 0),(6,.adr tSite d1),(8,.int .i64 i),(2,.ptr 3111 0),(5,.ptr 6111 0)] a2 w2:=hscr rfl rfl
    show lp4.wpIn (FR none) 0 P _ a2 w2
    refine wpIn_mono (lp4_ok ⟨hi,hlt⟩ (by rw [lenR_sh i d d1 hd]; exact hr i) h2) ?_
    rintro e a3 w3 ⟨rfl,(d2:Site),hd2,h3⟩
    show (cSnd (cSnd b2)).wpIn (FR none) 0 P _ a3 w3
    refine wpIn_mono (h3.code hm 2 (cSnd (cSnd b2)) (keys:=[8,6,2,5]) (Q:=fun x => x = (.normal,[.int .i64 (i + 1),.adr tSite d2,.ptr 3111 0,.ptr 6111 0],[],[])) ?_) ?_
    · refine holds_eq (T_2c d2 i) ?_
      rw [W_id (by omega) (by omega)]
      exact rfl
    · rintro e a3 w3 ⟨svs,hq,hscr⟩
      injection hq with he hq
      injection hq with hsv _
      subst he
      subst hsv
      exact ⟨d2,hd2,.inr ⟨rfl,hlt,hscr rfl rfl⟩⟩
  · injection hq with he hq
    injection hq with hsv _
    subst he
    subst hsv
    have h1:Scr E1 [3111,6111] Nm K N 111 w0 [(8,.int .i64 i),(6,.adr tSite d1),(2,.ptr 3111 0),(5,.ptr 6111 0)] a1 w1':=hscr rfl rfl
    refine ⟨d1,SameSh.refl _ _,.inl ⟨rfl,h1.pick fun p hp => ?_⟩⟩
    simp only [List.mem_cons,List.not_mem_nil,or_false] at hp
    rcases hp with rfl | rfl | rfl <;> exact ⟨by simp,rfl,rfl⟩
end
end Go.MB
