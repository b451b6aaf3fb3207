/- The law BarrierDoes: its loops over the result keep the shape, and what is older. -/
import Derived.Test.YtfhomgggbhjglaaGreatMhL
import Derived.Test.YtfhomgggbhjglaaGreatMuAa
namespace Go.MB
open Go Go.Sx Go.Proofs
set_option linter.unusedVariables false
set_option linter.unusedSimpArgs false
noncomputable section
def lenE(d:zE):Int:=d.2.2.2.2.2.1.1.length
theorem lenE_sh(d d' : zE)(h:jX zR d d'):lenE d'=lenE d:=congrArg Int.ofNat h.2.2.2.2.2.1.1.1
def lenV(d:zE):Int:=d.2.2.2.2.2.1.2.1.length
theorem lenV_sh(d d' : zE)(h:jX zR d d'):lenV d'=lenV d:=congrArg Int.ofNat h.2.2.2.2.2.1.2.1.1
def lenP(d:zE):Int:=d.2.2.2.2.2.2.1.length
theorem lenP_sh(d d' : zE)(h:jX zR d d'):lenP d'=lenP d:=congrArg Int.ofNat h.2.2.2.2.2.2.1.1
def lenR(j:Int)(d:zE):Int:=(d.2.2.2.2.2.1.2.1.getD j.toNat []).length
theorem lenR_sh(j:Int)(d d' : zE)(h:jX zR d d'):lenR j d'=lenR j d:=by
 have h1:jX gR d.2.2.2.2.2.1.2.1 d'.2.2.2.2.2.1.2.1:=h.2.2.2.2.2.1.2.1
 unfold lenR
 generalize d.2.2.2.2.2.1.2.1=l at *
 generalize d'.2.2.2.2.2.1.2.1=l' at *
 obtain⟨hl,hr⟩:=h1
 have hl:l'.length=l.length:=hl
 rw[List.getD_eq_getElem?_getD,List.getD_eq_getElem?_getD]
 by_cases hj:j.toNat<l.length
 ·have hj' : j.toNat<l'.length:=by omega
  have:=(hr j.toNat l[j.toNat] l'[j.toNat] (List.getElem?_eq_getElem hj) (List.getElem?_eq_getElem hj')).1
  rw[List.getElem?_eq_getElem hj,List.getElem?_eq_getElem hj']
  exact congrArg Int.ofNat this
 ·rw[List.getElem?_eq_none (by omega),List.getElem?_eq_none (by omega)]
set_option maxRecDepth 100000 in
theorem l14_ok{E1:En}{Nm:Nat}{K:Nat->Prop}{N:Nat}{w0:World}{d:zE}{a:Act}{w:World}{j:Int}(hb:lenE d<=1000) (h:Scr E1 [1,801,802] Nm K N 159 w0 [(17,.int .i64 0),(13,.adr zR d),(11,.int .i64 j),(12,.ptr 1 0),(9,.own 801),(10,.own 802)] a w) :
  (vJ kU).wpIn (FR none) 0 P (fun e a' w' =>e = .normal/\∃d' : zE,jX zR d d'/\Scr E1 [1,801,802] Nm K N 159 w0 [(13,.adr zR d'),(11,.int .i64 j),(12,.ptr 1 0),(9,.own 801),(10,.own 802)] a' w') a w:=by
 have e0:vJ kU = .block 2 (.loop b14):=by kernel_rfl
 have e1:b14 = .seq (yR b14) (.seq (.block 3 w14) (vJ (vJ b14))):=by kernel_rfl
 have e3:w14 = .region 17 (vI w14) false:=by kernel_rfl
 rw[e0]
 refine Scr.loop (fx:=[(11,.int .i64 j),(12,.ptr 1 0),(9,.own 801),(10,.own 802)]) (key:=17) (dk:=13) (T:=zR) (by decide) lenE lenE_sh (d0:=d) (fun(d1:zE) hd i a w hi hs=>?_) h
 have hl:=lenE_sh d d1 hd
 rw[e1]
 refine wpIn_seq (wpIn_mono (hs.code hm 2 (yR b14) (keys:=[17,13,11,12,9,10]) (Q:=fun x=>(i<lenE d1/\x=(.normal,[.int .i64 i,.adr zR d1,.int .i64 j,.ptr 1 0,.own 801,.own 802],[],[]))\/x=(.exit 2,[.int .i64 i,.adr zR d1,.int .i64 j,.ptr 1 0,.own 801,.own 802],[],[])) ?_) ?_)
 ·refine xC (T_14a d1 i j) ?_
  exact⟨fun c=>Or.inl ⟨dcT c,rfl⟩,fun c=>Or.inr rfl⟩
 rintro e a1 w1' ⟨svs,⟨hlt,hq⟩ |hq,hscr⟩
 ·injection hq with he hq
  injection hq with hsv _
  subst he
  subst hsv
  have h1:Scr E1 [1,801,802] Nm K N 159 w0 [(17,.int .i64 i),(13,.adr zR d1),(11,.int .i64 j),(12,.ptr 1 0),(9,.own 801),(10,.own 802)] a1 w1':=hscr rfl rfl
  have key:=h1.write (P:=P) (id:=17) (ops:=vI w14) (pre:=(vL w14).take 10) (o:=(vL w14).getD 10 default) (t:=2) (tx:=116) (ty:=114) (by kernel_rfl) (by kernel_rfl) (by kernel_rfl) (by kernel_rfl) (by kernel_rfl)
   (key:=13) (keys:=[17,11,12,9,10]) (T:=zR) (d:=d1) (rs:=[(17,.int .i64 i),(11,.int .i64 j),(12,.ptr 1 0),(9,.own 801),(10,.own 802)]) (k:=.i64) (m:=(d1.2.2.2.2.2.1.1.getD i.toNat (0,0,0,0)).2.1) (m':=IntKind.wrap .i64 ((d1.2.2.2.2.2.1.1.getD i.toNat (0,0,0,0)).2.1+1)) rfl rfl rfl (by decide) (by decide) (by decide) rfl
   (by
    refine xC (T_14b d1 i j) ?_
    exact⟨⟨hi,hlt⟩,⟨hi,hlt⟩,rfl⟩)
  rw[<- e3] at key
  show (Code.seq (.block 3 w14) (vJ (vJ b14))).wpIn (FR none) 0 P _ a1 w1'
  refine wpIn_seq (wpIn_block (wpIn_mono key ?_))
  rintro e a2 w2 ⟨rfl,(d2:zE),hd2,h2⟩
  show (vJ (vJ b14)).wpIn (FR none) 0 P _ a2 w2
  refine wpIn_mono (h2.code hm 2 (vJ (vJ b14)) (keys:=[17,13,11,12,9,10]) (Q:=fun x=>x=(.normal,[.int .i64 (i+1),.adr zR d2,.int .i64 j,.ptr 1 0,.own 801,.own 802],[],[])) ?_) ?_
  ·refine xC (T_14c d2 i j) ?_
   rw[jZ (by omega) (by omega)]
   exact rfl
  ·rintro e a3 w3 ⟨svs,hq,hscr⟩
   injection hq with he hq
   injection hq with hsv _
   subst he
   subst hsv
   exact⟨d2,hd2,.inr ⟨rfl,hlt,hscr rfl rfl⟩⟩
 ·injection hq with he hq
  injection hq with hsv _
  subst he
  subst hsv
  have h1:Scr E1 [1,801,802] Nm K N 159 w0 [(17,.int .i64 i),(13,.adr zR d1),(11,.int .i64 j),(12,.ptr 1 0),(9,.own 801),(10,.own 802)] a1 w1':=hscr rfl rfl
  refine⟨d1,jX.refl _ _,.inl ⟨rfl,h1.pick fun p hp=>?_⟩⟩
  simp only[List.mem_cons,List.not_mem_nil,or_false] at hp
  rcases hp with rfl |rfl |rfl |rfl |rfl<;>exact⟨by simp,rfl,rfl⟩
set_option maxRecDepth 100000 in
theorem l18_ok{E1:En}{Nm:Nat}{K:Nat->Prop}{N:Nat}{w0:World}{d:zE}{a:Act}{w:World}{j:Int}(hb:lenV d<=1000) (hr:∀i,0<=i->i<lenV d->0<lenR i d) (h:Scr E1 [1,801,802] Nm K N 159 w0 [(18,.int .i64 0),(13,.adr zR d),(11,.int .i64 j),(12,.ptr 1 0),(9,.own 801),(10,.own 802)] a w) :
  (vJ l18Ds).wpIn (FR none) 0 P (fun e a' w' =>e = .normal/\∃d' : zE,jX zR d d'/\Scr E1 [1,801,802] Nm K N 159 w0 [(13,.adr zR d'),(11,.int .i64 j),(12,.ptr 1 0),(9,.own 801),(10,.own 802)] a' w') a w:=by
 have e0:vJ l18Ds = .block 4 (.loop b18):=by kernel_rfl
 have e1:b18 = .seq (yR b18) (.seq (.block 5 w18) (vJ (vJ b18))):=by kernel_rfl
 have e3:w18 = .region 21 (vI w18) false:=by kernel_rfl
 rw[e0]
 refine Scr.loop (fx:=[(11,.int .i64 j),(12,.ptr 1 0),(9,.own 801),(10,.own 802)]) (key:=18) (dk:=13) (T:=zR) (by decide) lenV lenV_sh (d0:=d) (fun(d1:zE) hd i a w hi hs=>?_) h
 have hl:=lenV_sh d d1 hd
 have hr1:i<lenV d1->(0:Int)<=0/\(0:Int)<lenR i d1:=fun hlt=>⟨Int.le_refl _,by rw[lenR_sh i d d1 hd];exact hr i hi (by rw[<- hl];exact hlt)⟩
 rw[e1]
 refine wpIn_seq (wpIn_mono (hs.code hm 4 (yR b18) (keys:=[18,13,11,12,9,10]) (Q:=fun x=>(i<lenV d1/\x=(.normal,[.int .i64 i,.adr zR d1,.int .i64 j,.ptr 1 0,.own 801,.own 802],[],[]))\/x=(.exit 4,[.int .i64 i,.adr zR d1,.int .i64 j,.ptr 1 0,.own 801,.own 802],[],[])) ?_) ?_)
 ·refine xC (T_18a d1 i j) ?_
  exact⟨fun c=>Or.inl ⟨dcT c,rfl⟩,fun c=>Or.inr rfl⟩
 rintro e a1 w1' ⟨svs,⟨hlt,hq⟩ |hq,hscr⟩
 ·injection hq with he hq
  injection hq with hsv _
  subst he
  subst hsv
  have h1:Scr E1 [1,801,802] Nm K N 159 w0 [(18,.int .i64 i),(13,.adr zR d1),(11,.int .i64 j),(12,.ptr 1 0),(9,.own 801),(10,.own 802)] a1 w1':=hscr rfl rfl
  have key:=h1.write (P:=P) (id:=21) (ops:=vI w18) (pre:=(vL w18).take 10) (o:=(vL w18).getD 10 default) (t:=3) (tx:=134) (ty:=133) (by kernel_rfl) (by kernel_rfl) (by kernel_rfl) (by kernel_rfl) (by kernel_rfl)
   (key:=13) (keys:=[18,11,12,9,10]) (T:=zR) (d:=d1) (rs:=[(18,.int .i64 i),(11,.int .i64 j),(12,.ptr 1 0),(9,.own 801),(10,.own 802)]) (k:=.i64) (m:=(d1.2.2.2.2.2.1.2.1.getD i.toNat []).getD 0 0) (m':=IntKind.wrap .i64 ((d1.2.2.2.2.2.1.2.1.getD i.toNat []).getD 0 0+1)) rfl rfl rfl (by decide) (by decide) (by decide) rfl
   (by
    refine xC (T_18b d1 i j) ?_
    exact⟨⟨hi,hlt⟩,hr1 hlt,hr1 hlt,rfl⟩)
  rw[<- e3] at key
  show (Code.seq (.block 5 w18) (vJ (vJ b18))).wpIn (FR none) 0 P _ a1 w1'
  refine wpIn_seq (wpIn_block (wpIn_mono key ?_))
  rintro e a2 w2 ⟨rfl,(d2:zE),hd2,h2⟩
  show (vJ (vJ b18)).wpIn (FR none) 0 P _ a2 w2
  refine wpIn_mono (h2.code hm 4 (vJ (vJ b18)) (keys:=[18,13,11,12,9,10]) (Q:=fun x=>x=(.normal,[.int .i64 (i+1),.adr zR d2,.int .i64 j,.ptr 1 0,.own 801,.own 802],[],[])) ?_) ?_
  ·refine xC (T_18c d2 i j) ?_
   rw[jZ (by omega) (by omega)]
   exact rfl
  ·rintro e a3 w3 ⟨svs,hq,hscr⟩
   injection hq with he hq
   injection hq with hsv _
   subst he
   subst hsv
   exact⟨d2,hd2,.inr ⟨rfl,hlt,hscr rfl rfl⟩⟩
 ·injection hq with he hq
  injection hq with hsv _
  subst he
  subst hsv
  have h1:Scr E1 [1,801,802] Nm K N 159 w0 [(18,.int .i64 i),(13,.adr zR d1),(11,.int .i64 j),(12,.ptr 1 0),(9,.own 801),(10,.own 802)] a1 w1':=hscr rfl rfl
  refine⟨d1,jX.refl _ _,.inl ⟨rfl,h1.pick fun p hp=>?_⟩⟩
  simp only[List.mem_cons,List.not_mem_nil,or_false] at hp
  rcases hp with rfl |rfl |rfl |rfl |rfl<;>exact⟨by simp,rfl,rfl⟩
set_option maxRecDepth 100000 in
theorem l22_ok{E1:En}{Nm:Nat}{K:Nat->Prop}{N:Nat}{w0:World}{d:zE}{a:Act}{w:World}{j:Int}(hb:lenP d<=1000) (h:Scr E1 [1,801,802] Nm K N 159 w0 [(19,.int .i64 0),(13,.adr zR d),(11,.int .i64 j),(12,.ptr 1 0),(9,.own 801),(10,.own 802)] a w) :
  (vJ l22Ds).wpIn (FR none) 0 P (fun e a' w' =>e = .normal/\∃d' : zE,jX zR d d'/\Scr E1 [1,801,802] Nm K N 159 w0 [(13,.adr zR d'),(11,.int .i64 j),(12,.ptr 1 0),(9,.own 801),(10,.own 802)] a' w') a w:=by
 have e0:vJ l22Ds = .block 6 (.loop b22):=by kernel_rfl
 have e1:b22 = .seq (yR b22) (.seq (.block 7 w22) (vJ (vJ b22))):=by kernel_rfl
 have e3:w22 = .region 25 (vI w22) false:=by kernel_rfl
 rw[e0]
 refine Scr.loop (fx:=[(11,.int .i64 j),(12,.ptr 1 0),(9,.own 801),(10,.own 802)]) (key:=19) (dk:=13) (T:=zR) (by decide) lenP lenP_sh (d0:=d) (fun(d1:zE) hd i a w hi hs=>?_) h
 have hl:=lenP_sh d d1 hd
 rw[e1]
 refine wpIn_seq (wpIn_mono (hs.code hm 6 (yR b22) (keys:=[19,13,11,12,9,10]) (Q:=fun x=>(i<lenP d1/\x=(.normal,[.int .i64 i,.adr zR d1,.int .i64 j,.ptr 1 0,.own 801,.own 802],[],[]))\/x=(.exit 6,[.int .i64 i,.adr zR d1,.int .i64 j,.ptr 1 0,.own 801,.own 802],[],[])) ?_) ?_)
 ·refine xC (T_22a d1 i j) ?_
  exact⟨fun c=>Or.inl ⟨dcT c,rfl⟩,fun c=>Or.inr rfl⟩
 rintro e a1 w1' ⟨svs,⟨hlt,hq⟩ |hq,hscr⟩
 ·injection hq with he hq
  injection hq with hsv _
  subst he
  subst hsv
  have h1:Scr E1 [1,801,802] Nm K N 159 w0 [(19,.int .i64 i),(13,.adr zR d1),(11,.int .i64 j),(12,.ptr 1 0),(9,.own 801),(10,.own 802)] a1 w1':=hscr rfl rfl
  have key:=h1.write (P:=P) (id:=25) (ops:=vI w22) (pre:=(vL w22).take 9) (o:=(vL w22).getD 9 default) (t:=3) (tx:=150) (ty:=148) (by kernel_rfl) (by kernel_rfl) (by kernel_rfl) (by kernel_rfl) (by kernel_rfl)
   (key:=13) (keys:=[19,11,12,9,10]) (T:=zR) (d:=d1) (rs:=[(19,.int .i64 i),(11,.int .i64 j),(12,.ptr 1 0),(9,.own 801),(10,.own 802)]) (k:=.i64) (m:=(d1.2.2.2.2.2.2.1.getD i.toNat (0,0,0,false)).1) (m':=IntKind.wrap .i64 ((d1.2.2.2.2.2.2.1.getD i.toNat (0,0,0,false)).1+1)) rfl rfl rfl (by decide) (by decide) (by decide) rfl
   (by
    refine xC (T_22b d1 i j) ?_
    exact⟨⟨hi,hlt⟩,⟨hi,hlt⟩,rfl⟩)
  rw[<- e3] at key
  show (Code.seq (.block 7 w22) (vJ (vJ b22))).wpIn (FR none) 0 P _ a1 w1'
  refine wpIn_seq (wpIn_block (wpIn_mono key ?_))
  rintro e a2 w2 ⟨rfl,(d2:zE),hd2,h2⟩
  show (vJ (vJ b22)).wpIn (FR none) 0 P _ a2 w2
  refine wpIn_mono (h2.code hm 6 (vJ (vJ b22)) (keys:=[19,13,11,12,9,10]) (Q:=fun x=>x=(.normal,[.int .i64 (i+1),.adr zR d2,.int .i64 j,.ptr 1 0,.own 801,.own 802],[],[])) ?_) ?_
  ·refine xC (T_22c d2 i j) ?_
   rw[jZ (by omega) (by omega)]
   exact rfl
  ·rintro e a3 w3 ⟨svs,hq,hscr⟩
   injection hq with he hq
   injection hq with hsv _
   subst he
   subst hsv
   exact⟨d2,hd2,.inr ⟨rfl,hlt,hscr rfl rfl⟩⟩
 ·injection hq with he hq
  injection hq with hsv _
  subst he
  subst hsv
  have h1:Scr E1 [1,801,802] Nm K N 159 w0 [(19,.int .i64 i),(13,.adr zR d1),(11,.int .i64 j),(12,.ptr 1 0),(9,.own 801),(10,.own 802)] a1 w1':=hscr rfl rfl
  refine⟨d1,jX.refl _ _,.inl ⟨rfl,h1.pick fun p hp=>?_⟩⟩
  simp only[List.mem_cons,List.not_mem_nil,or_false] at hp
  rcases hp with rfl |rfl |rfl |rfl |rfl<;>exact⟨by simp,rfl,rfl⟩
structure ShortS (d:zE):Prop where
 e:lenE d<=1000
 v:lenV d<=1000
 r:∀i,0<=i->i<lenV d->0<lenR i d
 p:lenP d<=1000
theorem ShortS.sh{d d' : zE}(h:ShortS d) (k:jX zR d d'):ShortS d':=⟨by rw[lenE_sh d d' k];exact h.e,by rw[lenV_sh d d' k];exact h.v,fun i h0 h1=>by rw[lenR_sh i d d' k];exact h.r i h0 (by rw[<- lenV_sh d d' k];exact h1),by rw[lenP_sh d d' k];exact h.p⟩
set_option maxRecDepth 100000 in
theorem loops_ok{E1:En}{Nm:Nat}{K:Nat->Prop}{N:Nat}{w0:World}{d:zE}{a:Act}{w:World}{Q:Exit->Act->World->Prop}{j:Int}(hd:ShortS d) (h:Scr E1 [1,801,802] Nm K N 159 w0 [(17,.int .i64 0),(13,.adr zR d),(11,.int .i64 j),(12,.ptr 1 0),(9,.own 801),(10,.own 802)] a w)
  (hk:∀(d' : zE) a' w',Scr E1 [1,801,802] Nm K N 159 w0 [(13,.adr zR d'),(11,.int .i64 j),(12,.ptr 1 0),(9,.own 801),(10,.own 802)] a' w'->r26Ds.wpIn (FR none) 0 P Q a' w'):(vJ kU).wpIn (FR none) 0 P (Exit.then ((yZ 5 kD).wpIn (FR none) 0 P Q) Q) a w:=by
 have ez:yZ 5 kD = .seq (.seq (yR l18Ds) (vJ l18Ds)) (.seq (.seq (yR l22Ds) (vJ l22Ds)) r26Ds):=by kernel_rfl
 refine wpIn_mono (l14_ok hd.e h) ?_
 rintro e a1 w1' ⟨rfl,(d1:zE),hd1,h1⟩
 show (yZ 5 kD).wpIn (FR none) 0 P Q a1 w1'
 have s1:=hd.sh hd1
 rw[ez]
 refine wpIn_seq (wpIn_seq (wpIn_mono (h1.code hm 0 (yR l18Ds) (keys:=[18,13,11,12,9,10]) (Q:=fun x=>x=(.normal,[.int .i64 0,.adr zR d1,.int .i64 j,.ptr 1 0,.own 801,.own 802],[],[])) ?_) ?_))
 ·refine xC (T_18s d1 j) ?_
  exact rfl
 rintro e a2 w2 ⟨svs,hq,hscr⟩
 injection hq with he hq
 injection hq with hsv _
 subst he
 subst hsv
 have h2:Scr E1 [1,801,802] Nm K N 159 w0 [(18,.int .i64 0),(13,.adr zR d1),(11,.int .i64 j),(12,.ptr 1 0),(9,.own 801),(10,.own 802)] a2 w2:=hscr rfl rfl
 show (vJ l18Ds).wpIn (FR none) 0 P _ a2 w2
 refine wpIn_mono (l18_ok s1.v s1.r h2) ?_
 rintro e a3 w3 ⟨rfl,(d3:zE),hd3,h3⟩
 have s3:=s1.sh hd3
 show (Code.seq (.seq (yR l22Ds) (vJ l22Ds)) r26Ds).wpIn (FR none) 0 P Q a3 w3
 refine wpIn_seq (wpIn_seq (wpIn_mono (h3.code hm 0 (yR l22Ds) (keys:=[19,13,11,12,9,10]) (Q:=fun x=>x=(.normal,[.int .i64 0,.adr zR d3,.int .i64 j,.ptr 1 0,.own 801,.own 802],[],[])) ?_) ?_))
 ·refine xC (T_22s d3 j) ?_
  exact rfl
 rintro e a4 w4 ⟨svs,hq,hscr⟩
 injection hq with he hq
 injection hq with hsv _
 subst he
 subst hsv
 have h4:Scr E1 [1,801,802] Nm K N 159 w0 [(19,.int .i64 0),(13,.adr zR d3),(11,.int .i64 j),(12,.ptr 1 0),(9,.own 801),(10,.own 802)] a4 w4:=hscr rfl rfl
 show (vJ l22Ds).wpIn (FR none) 0 P _ a4 w4
 refine wpIn_mono (l22_ok s3.p h4) ?_
 rintro e a5 w5 ⟨rfl,(d5:zE),hd5,h5⟩
 exact hk d5 a5 w5 h5
theorem doG_zero{s:zE}{e:zN}(h:(doG s e).2≠0):(doG s e).1=qJ:=by
 unfold doG at *
 split at h
 ·rename_i c;rw[if_pos c]
 rename_i c1
 rw[if_neg c1]
 split at h
 ·rename_i c;rw[if_pos c]
 rename_i c2
 rw[if_neg c2]
 split at h
 ·rename_i c;rw[if_pos c]
 rename_i c3
 rw[if_neg c3]
 split at h
 ·rename_i c;rw[if_pos c]
 rename_i c4
 rw[if_neg c4]
 split at h
 ·rename_i c;rw[if_pos c]
 ·exact absurd rfl h
theorem zero_short:ShortS qJ:=⟨by decide,by decide,fun i h0 h1=>by
 have:lenV qJ=0:=rfl
 omega,by decide⟩
theorem zero_sOk:sOk qJ:=⟨⟨by decide,by decide,fun q hq=>by cases hq⟩,by decide⟩
theorem valid_short{s:zE}(h:vY s=0):ShortS s:=by
 have hv:=chkS_site h
 have hk:=yD (fC h)
 refine⟨?_,?_,fun i h0 h1=>?_,?_⟩
 ·have:=hv.l1;show (s.2.2.2.2.2.1.1.length:Int)<=1000;omega
 ·have:=hv.l2;show (s.2.2.2.2.2.1.2.1.length:Int)<=1000;omega
 ·have hlt:i.toNat<s.2.2.2.2.2.1.2.1.length:=by
   have h1:i<(s.2.2.2.2.2.1.2.1.length:Int):=h1
   omega
  have hm:=jT (d:=([]:List Int)) hlt
  have h2:=(hk.ev _ hm).1
  show 0<((s.2.2.2.2.2.1.2.1.getD i.toNat []).length:Int)
  have:=List.length_pos_iff.2 h2
  omega
 ·have:=hv.l4;show (s.2.2.2.2.2.2.1.length:Int)<=1000;omega
theorem dS_short(s:zE)(e:zN):ShortS (dS s e).1/\sOk (dS s e).1:=by
 by_cases h:vY s=0
 ·rw[dS_ok h]
  by_cases h2:(doG s e).2=0
  ·obtain⟨g1,_⟩:=do_ok (t:=(doG s e).1) h (Prod.ext rfl h2)
   exact⟨valid_short g1,(chkS_site g1).sOk⟩
  ·rw[doG_zero h2]
   exact⟨zero_short,zero_sOk⟩
 ·have e1:dS s e=(qJ,vY s):=if_pos h
  rw[e1]
  exact⟨zero_short,zero_sOk⟩
theorem ds_csG{ss:List zE}{ls:List zN}{j t c h o p n k:Int}{es:List E4}{vs:List (List Int)}{ps:List Pm}{B:Bs}{E:En}{S:St}{a:Act}{w:World}(hs:SatE B E S a w) (hn:B.n=159)
  (t9:S.tmps 9 = .sl zR ss) (t10:S.tmps 10 = .sl jE ls) (t11:S.tmps 11 = .int .i64 j) (t49:S.tmps 49 = .agg (fR t c h o p es vs n ps k)) :
  ∃EG:En,EG.I=E.I/\zG E.I w (.sl zR) ss [EG.sv 801]/\zG E.I w (.sl jE) ls [EG.sv 802]/\zG E.I w (.sl tEl) es [EG.sv 811]/\zG E.I w (.sl tIs) vs [EG.sv 812]/\zG E.I w (.sl tPm) ps [EG.sv 813] /\
   SatE ⟨w,fun _=>False,EG,apU noU [801,802,811,812,813],159,a.defers⟩ EG (csG ss ls j t c h o p es vs n ps k) a w:=by
 have f:=hs.tmps 9 (by rw[hn];decide)
 have x10:=hs.tmps 10 (by rw[hn];decide)
 have x11:=hs.tmps 11 (by rw[hn];decide)
 have x49:=hs.tmps 49 (by rw[hn];decide)
 rw[t9] at f
 rw[t10] at x10
 rw[t11] at x11
 rw[t49] at x49
 unfold Rep at f x10 x11 x49
 obtain⟨us,e49,hus⟩:=x49
 obtain⟨u1,u2,u3,rfl,d1,d2,d3⟩:=siteD_vals hus
 let EG:En:=⟨E.ρ,fun i=>bif Nat.beq i 801 then a.tmps.getD 9 undef else bif Nat.beq i 802 then a.tmps.getD 10 undef else bif Nat.beq i 811 then u1 else bif Nat.beq i 812 then u2 else u3,E.I,E.rc⟩
 refine⟨EG,rfl,f,x10,d1,d2,d3,?_⟩
 have ow:∀(i:Nat)(z:Value),i∈[801,802,811,812,813]->EG.sv i=z->(∃a n c,z = .slice a n c)->Rep EG (apU noU [801,802,811,812,813]) w (.own i) z:=fun i z hi hz hsl=>by
  unfold Rep
  exact⟨(yU (ts:=[]) (hs:=[])).2 hi,hz.symm,by first |exact hsl |(rw[hz];exact hsl)⟩
 refine wA (by rw[<- hn];exact hs.size) rfl ?_ ?_ ?_ ?_ hs.heap.lt
 ·intro q hq
  simp only[List.mem_cons,List.not_mem_nil,or_false] at hq
  rcases hq with rfl |rfl |rfl |rfl
  ·exact ow 801 _ (by decide) rfl (yP f)
  ·exact ow 802 _ (by decide) rfl (yP x10)
  ·unfold Rep;exact x11
  ·show Rep EG _ w (.agg (siteM t c h o p n k 811 812 813)) (a.tmps.getD 49 undef)
   rw[e49]
   unfold Rep
   refine⟨_,rfl,?_⟩
   have ri:∀(n:Int),Rep EG (apU noU [801,802,811,812,813]) w (.int .i64 n) (.int .i64 n):=fun n=>by unfold Rep;rfl
   exact zA.cons (ri _) (zA.cons (ri _) (zA.cons (ri _) (zA.cons (ri _) (zA.cons (ri _) (zA.cons (ow 811 _ (by decide) rfl (yP d1)) (zA.cons (ow 812 _ (by decide) rfl (yP d2)) (zA.cons (ri _) (zA.cons (ow 813 _ (by decide) rfl (yP d3)) (zA.cons (ri _) zA.nil)))))))))
 ·intro kk oo hk'
  simp only[List.mem_cons,List.not_mem_nil,or_false,Prod.mk.injEq,Option.some.injEq] at hk'
  rcases hk' with⟨rfl,rfl⟩ |⟨rfl,rfl⟩ |⟨rfl,rfl⟩ |⟨rfl,rfl⟩ |⟨rfl,rfl⟩
  ·exact⟨by decide,fA (fun b hb=>hb) rfl f⟩
  ·exact⟨by decide,fA (fun b hb=>hb) rfl x10⟩
  ·exact⟨by decide,fA (fun b hb=>hb) rfl d1⟩
  ·exact⟨by decide,fA (fun b hb=>hb) rfl d2⟩
  ·exact⟨by decide,fA (fun b hb=>hb) rfl d3⟩
 ·intro i oi kk ok hi hk' li lk he
  simp only[List.mem_cons,List.not_mem_nil,or_false,Prod.mk.injEq,Option.some.injEq] at hi
  rcases hi with⟨rfl,rfl⟩ |⟨rfl,rfl⟩ |⟨rfl,rfl⟩ |⟨rfl,rfl⟩ |⟨rfl,rfl⟩<;>exact li.elim
 ·intro kk oo hk' lk
  simp only[List.mem_cons,List.not_mem_nil,or_false,Prod.mk.injEq,Option.some.injEq] at hk'
  rcases hk' with⟨rfl,rfl⟩ |⟨rfl,rfl⟩ |⟨rfl,rfl⟩ |⟨rfl,rfl⟩ |⟨rfl,rfl⟩<;>exact lk.elim
theorem ds_csH{ss:List zE}{ls:List zN}{j t c h o p n k:Int}{es:List E4}{vs:List (List Int)}{ps:List Pm}{K:Nat->Prop}{w:World}{a:Act}{sv:Nat->Value}{b:Nat}{rc:Nat->RS->Obj}{ρ:Nat->Nat}{D:List Deferred}(hsz:a.tmps.size=159) (hD:a.defers=D)
  (f:a.tmps.getD 9 undef=sv 801) (x10:a.tmps.getD 10 undef=sv 802) (x11:a.tmps.getD 11 undef = .int .i64 j) (x12:a.tmps.getD 12 undef = .pointer (some ⟨b,0,none⟩))
  (d9:zG K w (.sl zR) ss [sv 801]) (d10:zG K w (.sl jE) ls [sv 802]) (d1:zG K w (.sl tEl) es [sv 811]) (d2:zG K w (.sl tIs) vs [sv 812]) (d3:zG K w (.sl tPm) ps [sv 813])
  (hb:∃ty,w.heap[b]? = some (.cells #[.int .i64 t,.int .i64 c,.int .i64 h,.int .i64 o,.int .i64 p,sv 811,sv 812,.int .i64 n,sv 813,.int .i64 k] ty (0,0))) (hKb:¬ K b) (hK:∀x,K x->x<w.heap.size) :
  SatE ⟨w,fun x=>x=b,⟨fun i=>bif Nat.beq i 1 then b else ρ i,sv,K,rc⟩,apU noU [1,801,802,811,812,813],159,D⟩ ⟨fun i=>bif Nat.beq i 1 then b else ρ i,sv,K,rc⟩ (csH ss ls j t c h o p es vs n ps k) a w:=by
 let EG:En:=⟨fun i=>bif Nat.beq i 1 then b else ρ i,sv,K,rc⟩
 have ow:∀(i:Nat)(z:Value),i∈[1,801,802,811,812,813]->EG.sv i=z->(∃a n c,z = .slice a n c)->Rep EG (apU noU [1,801,802,811,812,813]) w (.own i) z:=fun i z hi hz hsl=>by
  unfold Rep
  exact⟨(yU (ts:=[]) (hs:=[])).2 hi,hz.symm,by first |exact hsl |(rw[hz];exact hsl)⟩
 obtain⟨ty,hb⟩:=hb
 refine wA hsz hD ?_ ?_ ?_ ?_ hK
 ·intro q hq
  simp only[List.mem_cons,List.not_mem_nil,or_false] at hq
  rcases hq with rfl |rfl |rfl |rfl
  ·exact ow 801 _ (by decide) f.symm (by rw[f];exact yP d9)
  ·exact ow 802 _ (by decide) x10.symm (by rw[x10];exact yP d10)
  ·unfold Rep;exact x11
  ·unfold Rep;exact⟨rfl,x12⟩
 ·intro kk oo hk'
  simp only[List.mem_cons,List.not_mem_nil,or_false,Prod.mk.injEq,Option.some.injEq] at hk'
  rcases hk' with⟨rfl,rfl⟩ |⟨rfl,rfl⟩ |⟨rfl,rfl⟩ |⟨rfl,rfl⟩ |⟨rfl,rfl⟩ |⟨rfl,rfl⟩
  ·refine⟨by decide,[.int .i64 t,.int .i64 c,.int .i64 h,.int .i64 o,.int .i64 p,sv 811,sv 812,.int .i64 n,sv 813,.int .i64 k],ty,hb,?_⟩
   have ri:∀(n:Int),Rep EG (apU noU [1,801,802,811,812,813]) w (.int .i64 n) (.int .i64 n):=fun n=>by unfold Rep;rfl
   exact zA.cons (ri _) (zA.cons (ri _) (zA.cons (ri _) (zA.cons (ri _) (zA.cons (ri _) (zA.cons (ow 811 _ (by decide) rfl (yP d1)) (zA.cons (ow 812 _ (by decide) rfl (yP d2)) (zA.cons (ri _) (zA.cons (ow 813 _ (by decide) rfl (yP d3)) (zA.cons (ri _) zA.nil)))))))))
  ·exact⟨by decide,fA (fun b hb=>hb) rfl d9⟩
  ·exact⟨by decide,fA (fun b hb=>hb) rfl d10⟩
  ·exact⟨by decide,fA (fun b hb=>hb) rfl d1⟩
  ·exact⟨by decide,fA (fun b hb=>hb) rfl d2⟩
  ·exact⟨by decide,fA (fun b hb=>hb) rfl d3⟩
 ·intro i oi kk ok hi hk' li lk he
  simp only[List.mem_cons,List.not_mem_nil,or_false,Prod.mk.injEq,Option.some.injEq] at hi hk'
  rcases hi with⟨rfl,rfl⟩ |⟨rfl,rfl⟩ |⟨rfl,rfl⟩ |⟨rfl,rfl⟩ |⟨rfl,rfl⟩ |⟨rfl,rfl⟩
  ·rcases hk' with⟨rfl,rfl⟩ |⟨rfl,rfl⟩ |⟨rfl,rfl⟩ |⟨rfl,rfl⟩ |⟨rfl,rfl⟩ |⟨rfl,rfl⟩
   ·rfl
   all_goals exact lk.elim
  all_goals exact li.elim
 ·intro kk oo hk' lk
  simp only[List.mem_cons,List.not_mem_nil,or_false,Prod.mk.injEq,Option.some.injEq] at hk'
  rcases hk' with⟨rfl,rfl⟩ |⟨rfl,rfl⟩ |⟨rfl,rfl⟩ |⟨rfl,rfl⟩ |⟨rfl,rfl⟩ |⟨rfl,rfl⟩
  ·exact⟨hKb,rfl⟩
  all_goals exact lk.elim
set_option maxRecDepth 100000 in
theorem ds_scr{B:Bs}{E:En}{S:St}{a:Act}{w5:World}{Nm N:Nat}{K:Nat->Prop}{d:zE}{j:Int}{x y z:Nat}(hs:SatE B E S a w5) (hn:B.n=159)
  (t9:S.tmps 9 = .own 801) (t10:S.tmps 10 = .own 802) (t11:S.tmps 11 = .int .i64 j) (t12:S.tmps 12 = .ptr 1 0) (t13:S.tmps 13 = .ptr 14159 0) (t17:S.tmps 17 = .int .i64 0) (hb:S.heap 14159=some (.box (siteMs d x y z)))
  (n1:S.heap x=some (.nw 1 tEl d.2.2.2.2.2.1.1)) (n2:S.heap y=some (.nw 1 tIs d.2.2.2.2.2.1.2.1)) (n3:S.heap z=some (.nw 1 tPm d.2.2.2.2.2.2.1))
  (hJN:∀b,E.I b->E.ρ 1<=b->N<=b) (hbN:N<=E.ρ 14159) (hm5:zL Nm w5 E.I a.defers) (hN:N<=w5.heap.size) (hNm:Nm<=w5.heap.size) (hK:∀b,K b->E.I b) :
  Scr E [1,801,802] Nm K N 159 w5 [(17,.int .i64 0),(13,.adr zR d),(11,.int .i64 j),(12,.ptr 1 0),(9,.own 801),(10,.own 802)] a w5:=by
 obtain⟨t,c,h,o,p,⟨es,vs,n⟩,ps,k⟩:=d
 obtain⟨_,zM,ty,h1,h2⟩:=hs.heap.ob 14159 _ hb
 have k3:=ex_repL (by rfl) h2
 simp only[List.map_cons,List.map_nil,exV] at k3
 have hlt:=hs.heap.jV (k:=14159) ⟨_,hb,trivial⟩
 rw[vH (by rfl) h2.length] at h1
 have hrow:=heap_row h1 0 10
 rw[List.drop_zero,List.take_of_length_le (by rw[k3];exact Nat.le_refl _)] at hrow
 let J2:Nat->Prop:=fun b=>(E.I b/\E.ρ 1<=b)\/b=E.ρ 14159
 have nwd:∀{i:Nat}{ty:Ty}{l:List ty.den},S.heap i=some (.nw 1 ty l)->zG J2 w5 (.sl ty) l [E.sv i]:=fun {i ty l} hi=>by
  obtain⟨_,_,hsl⟩:=hs.heap.ob i _ hi
  exact zG.mono (I:=fun b=>E.I b/\E.ρ 1<=b) (fun b hb=>.inl hb) (fun _ _=>rfl) (.sl ty) l [E.sv i] ⟨_,rfl,hsl⟩
 have hd:zG J2 w5 zR (t,c,h,o,p,(es,vs,n),ps,k) zM:=by
  rw[k3]
  exact⟨[_],_,rfl,rfl,[_],_,rfl,rfl,[_],_,rfl,rfl,[_],_,rfl,rfl,[_],_,rfl,rfl,[E.sv x,E.sv y,.int .i64 n],[E.sv z,.int .i64 k],rfl,⟨[_],_,rfl,nwd n1,[_],_,rfl,nwd n2,rfl⟩,[_],_,rfl,nwd n3,rfl⟩
 have g:=hs.tmps 9 (by rw[hn];decide)
 have x10:=hs.tmps 10 (by rw[hn];decide)
 have x11:=hs.tmps 11 (by rw[hn];decide)
 have x12:=hs.tmps 12 (by rw[hn];decide)
 have x13:=hs.tmps 13 (by rw[hn];decide)
 have x17:=hs.tmps 17 (by rw[hn];decide)
 rw[t9] at g
 rw[t10] at x10
 rw[t11] at x11
 rw[t12] at x12
 rw[t13] at x13
 rw[t17] at x17
 unfold Rep at g x10 x11 x12 x13 x17
 refine⟨⟨J2,?_,wA (us:=[1,801,802]) (by rw[<- hn];exact hs.size) rfl ?_ (fun k o hk=>by cases hk) (fun _ _ _ _ hj=>by cases hj) (fun _ _ hk=>by cases hk) ?_,?_⟩,hN,hNm,fun b hb=>hs.heap.lt b (hK b hb),Frm.refl _ _⟩
 ·rintro b (⟨hb,hb2⟩ |rfl)
  ·exact hJN b hb hb2
  ·exact hbN
 ·intro q hq
  simp only[List.mem_cons,List.not_mem_nil,or_false] at hq
  rcases hq with rfl |rfl |rfl |rfl |rfl |rfl
  ·unfold Rep;exact x17
  ·unfold Rep;exact⟨E.ρ 14159,0,zM,x13.2,.inr rfl,hrow,hd⟩
  ·unfold Rep;exact x11
  ·unfold Rep;exact⟨rfl,x12.2⟩
  ·unfold Rep;exact⟨rfl,g.2⟩
  ·unfold Rep;exact⟨rfl,x10.2⟩
 ·rintro b (⟨hb,_⟩ |rfl)
  ·exact hs.heap.lt b hb
  ·exact hlt
 ·refine hm5.fM (fun _ _=>rfl) fun b hdf hb=>?_
  rcases hb with (hb |rfl) |hb
  ·exact hb.1
  ·rw[h1] at hdf;cases hdf
  ·exact hK b hb
def RInv(w0:World)(ss:List zE)(ls:List zN)(j:Int)(a:Act)(w:World):Prop :=
 ∃I:Nat->Prop,SatE ⟨w,fun _=>False,E0 I,noU,159,a.defers⟩ (E0 I) (csF ss ls j) a w/\zL w0.heap.size w I a.defers/\Frm w0 (fun b=>w0.heap.size<=b) w
set_option maxRecDepth 100000 in
theorem ds_last{ss:List zE}{ls:List zN}{j t c h o p n k:Int}{es:List E4}{vs:List (List Int)}{ps:List Pm}{B:Bs}{Q:Exit->Act->World->Prop}{a:Act}{w:World}(hs:Sat B (csH ss ls j t c h o p es vs n ps k) a w) (hn:B.n=159)
  (hS:ss.getD j.toNat (0,0,0,0,0,([],[],0),[],0)=(t,c,h,o,p,(es,vs,n),ps,k)) (hj:0<=j/\j<ss.length) (h4:j<4) (s1:sOk (t,c,h,o,p,(es,vs,n),ps,k))
  (fin:∀S a' w',Sat B S a' w'->(Exit.normal,[9,10,11].map S.tmps,([]:List Nat).map S.heap,([]:List Nat).map S.used)=(Exit.normal,[SV.own 801,.own 802,.int .i64 (j+1)],[],[])->Q .normal a' w') :
  r26Ds.wpIn (FR none) 0 P (Exit.inBlock 1 (Exit.then (nxDs.wpIn (FR none) 0 P Q) Q)) a w:=by
 obtain⟨m,r,s,f,v,u⟩:=B
 replace hn:v=159:=hn
 subst hn
 have hT:(jR (P:=P) [c_rSame.gc] (fun _=>none) [] 159 1 r26Ds (csH ss ls j t c h o p es vs n ps k) (fun _=>none) kLE).holds fun x=>x=(Exit.normal,[SV.own 801,.own 802,.int .i64 (j+1)],[],[]):=by
  have hT:=T_lE ss ls j t c h o p es vs n ps k
  rw[hT,hS,jZ (n:=j+1) (by omega) (by omega)]
  have e2:∀z:zE,(!sameB z z)=true->False:=fun z h=>by rw[sameB_iff.2 rfl] at h;cases h
  exact⟨hj,⟨s1,s1⟩,fun d=>(e2 _ d).elim,fun _=>rfl⟩
 refine jA hm (r0:=none) (u0:=f) (cx:=[c_rSame.gc]) (lp:=fun _=>none) (ys:=[]) (B:=⟨m,r,s,f,159,u⟩) (Q:=fun x=>x=(Exit.normal,[SV.own 801,.own 802,.int .i64 (j+1)],[],[])) (fun k hk=>hk) (fun h hh=>by cases hh) r26Ds 1 (csH ss ls j t c h o p es vs n ps k) (fun _=>none) kLE _ (vQ _ _ _ _) (jP _ _) hT ?_ a w hs
 intro e A K6 a6 w6 hK6 hs6 hk6
 cases e with
 |normal=>
  show nxDs.wpIn (FR none) 0 P Q a6 w6
  refine jA hm (r0:=none) (u0:=f) (cx:=[]) (lp:=fun _=>none) (ys:=[]) (B:=⟨m,r,s,f,159,u⟩) (Q:=fun x=>x=(Exit.normal,[SV.own 801,.own 802,.int .i64 (j+1)],[],[])) (fun k hk=>hk) (fun h hh=>by cases hh) nxDs 0 A K6 (fun e S _=>obs [9,10,11] [] [] e S) _ (vQ _ _ _ _) hK6 hk6 ?_ a6 w6 hs6
  intro e C K7 a7 w7 hK7 hs7 hk7
  have hq:=yV hk7
  have he:e = .normal:=congrArg (·.1) hq
  subst he
  exact fin C a7 w7 hs7 hq
 |_=>
  have h6:=congrArg (·.1) (show (_:Exit×List SV×List (Option Ob)×List Bool)=_ from hk6)
  cases h6
def obsI(ss:List zE)(ls:List zN)(j t c h o p:Int)(es:List E4)(vs:List (List Int))(n:Int)(ps:List Pm)(k:Int)(d:zE):Exit×List SV×List (Option Ob)×List Bool :=
 (.normal,[.own 801,.own 802,.int .i64 j,.ptr 1 0,.ptr 14159 0,.int .i64 0],[some (.box (siteM t c h o p n k 811 812 813)),some (.box (siteMs d 57159 57160 57161)),some (.nw 1 tEl d.2.2.2.2.2.1.1),some (.nw 1 tIs d.2.2.2.2.2.1.2.1),some (.nw 1 tPm d.2.2.2.2.2.2.1),some (.frz zR ss),some (.frz jE ls),some (.frz tEl es),some (.frz tIs vs),some (.frz tPm ps)],List.replicate 10 true)
set_option maxRecDepth 100000 in
theorem ds_cond{ss:List zE}{ls:List zN}{j t c h o p n k:Int}{es:List E4}{vs:List (List Int)}{ps:List Pm}{B:Bs}{Q:Exit->Act->World->Prop}{a:Act}{w:World}(hs:Sat B (csH ss ls j t c h o p es vs n ps k) a w) (hn:B.n=159)
  (hS:ss.getD j.toNat (0,0,0,0,0,([],[],0),[],0)=(t,c,h,o,p,(es,vs,n),ps,k)) (hj:0<=j/\j<ss.length) (hl:0<=j/\j<ls.length) (s1:sOk (t,c,h,o,p,(es,vs,n),ps,k)) (s9:ps.length<=900)
  (fin:∀S a' w',Sat B S a' w'->(Exit.normal,[9,10,11,12,13,17].map S.tmps,[1,14159,57159,57160,57161,801,802,811,812,813].map S.heap,[1,14159,57159,57160,57161,801,802,811,812,813].map S.used)=obsI ss ls j t c h o p es vs n ps k (dS (t,c,h,o,p,(es,vs,n),ps,k) (ls.getD j.toNat (0,0,0,0,0,0))).1 ->
   (vJ kU).wpIn (FR none) 0 P (Exit.then ((yZ 5 kD).wpIn (FR none) 0 P Q) Q) a' w') :
  (yZ 1 kD).wpIn (FR none) 0 P Q a w:=by
 obtain⟨f,g,l,b,q,m⟩:=B
 replace hn:q=159:=hn
 subst hn
 have hT:(jR (P:=P) [c_DoN 1] (fun _=>none) [] 159 1 r10Ds (csH ss ls j t c h o p es vs n ps k) (fun _=>none) kLD1).holds fun x=>x=obsI ss ls j t c h o p es vs n ps k (dS (t,c,h,o,p,(es,vs,n),ps,k) (ls.getD j.toNat (0,0,0,0,0,0))).1:=by
  have hT:=T_lD ss ls j t c h o p es vs n ps k
  rw[hT,hS]
  have sd:=(dS_short (t,c,h,o,p,(es,vs,n),ps,k) (ls.getD j.toNat (0,0,0,0,0,0))).2
  have e1:∀z:Int,(z != z)=true->False:=fun z h=>zAi h rfl
  have e2:∀z:zE,(!sameB z z)=true->False:=fun z h=>by rw[sameB_iff.2 rfl] at h;cases h
  exact⟨hl,⟨s1,s9⟩,hj,hl,⟨s1,s9⟩,s1,hj,s1,fun d=>(e1 _ d).elim,fun _=>⟨⟨sd,sd⟩,fun d=>(e2 _ d).elim,fun _=>⟨fun d=>(e1 _ d).elim,fun _=>⟨hj,⟨s1,s1⟩,fun d=>(e2 _ d).elim,fun _=>rfl⟩⟩⟩⟩
 have ex:yZ 1 kD = .seq r10Ds (.seq r11Ds (.seq r12Ds (.seq (.seq (yR kU) (vJ kU)) (yZ 5 kD)))):=by kernel_rfl
 rw[ex]
 refine wpIn_seq (jA hm (r0:=none) (u0:=b) (cx:=[c_DoN 1]) (lp:=fun _=>none) (ys:=[]) (B:=⟨f,g,l,b,159,m⟩) (Q:=fun x=>x=obsI ss ls j t c h o p es vs n ps k (dS (t,c,h,o,p,(es,vs,n),ps,k) (ls.getD j.toNat (0,0,0,0,0,0))).1) (fun k hk=>hk) (fun h hh=>by cases hh) r10Ds 1 (csH ss ls j t c h o p es vs n ps k) (fun _=>none) kLD1 _ (vQ _ _ _ _) (jP _ _) hT ?_ a w hs)
 intro e r K1 a1 w1 hK1 hs1 hk1
 cases e with
 |normal=>
  show (Code.seq r11Ds (.seq r12Ds (.seq (.seq (yR kU) (vJ kU)) (yZ 5 kD)))).wpIn (FR none) 0 P Q a1 w1
  refine wpIn_seq (jA hm (r0:=none) (u0:=b) (cx:=[c_rDo.gc]) (lp:=fun _=>none) (ys:=[]) (B:=⟨f,g,l,b,159,m⟩) (Q:=fun x=>x=obsI ss ls j t c h o p es vs n ps k (dS (t,c,h,o,p,(es,vs,n),ps,k) (ls.getD j.toNat (0,0,0,0,0,0))).1) (fun k hk=>hk) (fun h hh=>by cases hh) r11Ds 1 r K1 kLD2 _ (vQ _ _ _ _) hK1 hk1 ?_ a1 w1 hs1)
  intro e s K2 a2 w2 hK2 hs2 hk2
  cases e with
  |normal=>
   show (Code.seq r12Ds (.seq (.seq (yR kU) (vJ kU)) (yZ 5 kD))).wpIn (FR none) 0 P Q a2 w2
   refine wpIn_seq (jA hm (r0:=none) (u0:=b) (cx:=[c_Check.gc,c_rCheck.gc,c_rSame.gc]) (lp:=fun _=>none) (ys:=[]) (B:=⟨f,g,l,b,159,m⟩) (Q:=fun x=>x=obsI ss ls j t c h o p es vs n ps k (dS (t,c,h,o,p,(es,vs,n),ps,k) (ls.getD j.toNat (0,0,0,0,0,0))).1) (fun k hk=>hk) (fun h hh=>by cases hh) r12Ds 1 s K2 kLD3 _ (vQ _ _ _ _) hK2 hk2 ?_ a2 w2 hs2)
   intro e u K3 a3 w3 hK3 hs3 hk3
   cases e with
   |normal=>
    show (Code.seq (.seq (yR kU) (vJ kU)) (yZ 5 kD)).wpIn (FR none) 0 P Q a3 w3
    refine wpIn_seq (wpIn_seq (jA hm (r0:=none) (u0:=b) (cx:=[]) (lp:=fun _=>none) (ys:=[]) (B:=⟨f,g,l,b,159,m⟩) (Q:=fun x=>x=obsI ss ls j t c h o p es vs n ps k (dS (t,c,h,o,p,(es,vs,n),ps,k) (ls.getD j.toNat (0,0,0,0,0,0))).1) (fun k hk=>hk) (fun h hh=>by cases hh) (yR kU) 1 u K3
     (fun e S _=>obs [9,10,11,12,13,17] [1,14159,57159,57160,57161,801,802,811,812,813] [1,14159,57159,57160,57161,801,802,811,812,813] e S) _ (vQ _ _ _ _) hK3 hk3 ?_ a3 w3 hs3))
    intro e v K4 a4 w4 hK4 hs4 hk4
    have hq:=yV hk4
    have he:e = .normal:=congrArg (·.1) hq
    subst he
    exact fin v a4 w4 hs4 hq
   |_=>
    have h6:=congrArg (·.1) (show (_:Exit×List SV×List (Option Ob)×List Bool)=_ from hk3)
    cases h6
  |_=>exact hk2.elim
 |_=>exact hk1.elim
structure SitesOk (ss:List zE) (ls:List zN):Prop where
 s:ss.length=4
 l:ls.length=4
 ok:∀s∈ss,sOk s/\s.2.2.2.2.2.2.1.length<=900
set_option maxRecDepth 100000 in
theorem ds_round{w0:World}{ss:List zE}{ls:List zN}{j:Int}{a:Act}{w:World}(hok:SitesOk ss ls) (h:RInv w0 ss ls j a w) (h0:0<=j) (h4:j<4) :
  rdDs.wpIn (FR none) 0 P (fun e a' w' =>e = .normal/\RInv w0 ss ls (j+1) a' w') a w:=by
 obtain⟨I,hs,mk,f⟩:=h
 have e1:rdDs = .seq hdDs (.seq (.block 1 kD) nxDs):=by kernel_rfl
 have e2:kD = .seq r9Ds (yZ 1 kD):=by kernel_rfl
 have e3:r9Ds = .region 9 (vI r9Ds) false:=by kernel_rfl
 have hjs:j<(ss.length:Int):=by rw[hok.s];exact h4
 have hjl:j<(ls.length:Int):=by rw[hok.l];exact h4
 obtain⟨t,c,h,o,p,es,vs,n,ps,k,hS⟩:∃t c h o p es vs n ps k,ss.getD j.toNat (0,0,0,0,0,([],[],0),[],0)=(t,c,h,o,p,(es,vs,n),ps,k):=by
  generalize ss.getD j.toNat (0,0,0,0,0,([],[],0),[],0)=s
  obtain⟨t,c,h,o,p,⟨es,vs,n⟩,ps,k⟩:=s
  exact⟨t,c,h,o,p,es,vs,n,ps,k,rfl⟩
 have hmem:=hok.ok _ (jT (d:=(0,0,0,0,0,([],[],0),[],0)) (show j.toNat<ss.length by omega))
 rw[hS] at hmem
 obtain⟨s1,s9⟩:=hmem
 rw[e1]
 refine wpIn_seq (jA hm (r0:=none) (u0:=noU) (cx:=[]) (lp:=fun _=>none) (ys:=[]) (B:=⟨w,fun _=>False,E0 I,noU,159,a.defers⟩) (Q:=fun x=>x=(Exit.normal,[SV.sl zR ss,.sl jE ls,.int .i64 j,.agg (fR t c h o p es vs n ps k)],[],[])) (fun k hk=>hk) (fun h hh=>by cases hh) hdDs 0 (csF ss ls j) (fun _=>none) kLB _ (vQ _ _ _ _) (jP _ _) ?_ ?_ a w ⟨E0 I,hs⟩)
 ·have hT:=T_lB ss ls j
  rw[hT,hS]
  exact⟨fun _=>⟨⟨h0,hjs⟩,s1,rfl⟩,fun c=>absurd h4 (dcF c)⟩
 intro e u K1 a1 w1 hK1 hs1 hk1
 cases e with
 |normal=>
  show (Code.seq (.block 1 kD) nxDs).wpIn (FR none) 0 P _ a1 w1
  refine wpIn_seq (wpIn_block ?_)
  rw[e2]
  refine wpIn_seq ?_
  rw[e3]
  refine wpIn_region ?_
  obtain⟨r,A,K2,hL,_,_,hk2⟩:=yY (P:=P) _ u K1 [] hK1 (show (jQ (P:=P) [c_rCopy.gc] 159 (vI r9Ds) false ((vL r9Ds).take 5) u K1 [] (fun S _=>obs [9,10,11,49] [] [] .normal S)).holds _ from hk1)
  have er:List.range (vI r9Ds).size=List.range' 0 ((vL r9Ds).take 5).length++[5,6]:=by kernel_rfl
  rw[er]
  have e0' : (vI r9Ds).toList=(vL r9Ds):=by kernel_rfl
  refine kS hL 0 (fun i o' ho' =>?_) a1 w1 hs1 fun a2 w2 hs2=>?_
  ·rw[<- Array.getElem?_toList,e0',Nat.zero_add]
   rw[List.getElem?_take] at ho'
   split at ho'
   ·exact ho'
   ·cases ho'
  have hq:=yV hk2
  injection hq with _ hq
  injection hq with ht _
  simp only[List.map_cons,List.map_nil,List.cons.injEq,and_true] at ht
  obtain⟨t9,t10,t11,t49⟩:=ht
  obtain⟨E2,hs2⟩:=hs2
  have f2:Frm w0 (fun b=>w0.heap.size<=b) w2:=Go.MB.Frm.up f hs2.heap.frame (fun _ x=>x.elim)
  have mk2:zL w0.heap.size w2 E2.I a2.defers:=zL.step hs2 f.size mk (fun b hb=>hb.elim)
  obtain⟨EG,hGI,d9,d10,d1,d2,d3,hsG⟩:=ds_csG hs2 rfl t9 t10 t11 t49
  -- the own site's variable
  have hT:(jQ (P:=P) [] 159 (vI r9Ds) false ((vL r9Ds).drop 5) (csG ss ls j t c h o p es vs n ps k) (fun _=>none) [] (fun S _=>obs [9,10,11,12] [13159] [13159,801,802,811,812,813] .normal S)).holds fun x=>x=(Exit.normal,[SV.own 801,.own 802,.int .i64 j,.ptr 13159 0],[some (Ob.box (siteM t c h o p n k 811 812 813))],List.replicate 6 true):=by
   have hT:=T_lC ss ls j t c h o p es vs n ps k
   rw[hT]
   exact rfl
  obtain⟨r,z,K3,hL3,_,_,hk3⟩:=yY _ _ _ [] (jP _ _) hT
  have er:([5,6]:List Nat)=List.range' 5 ((vL r9Ds).drop 5).length++[]:=by kernel_rfl
  rw[er]
  refine kS (B:=⟨w2,fun _=>False,EG,apU noU [801,802,811,812,813],159,a2.defers⟩) hL3 5 (fun i o' ho' =>?_) a2 w2 ⟨EG,hsG⟩ fun a3 w3 hs3=>?_
  ·rw[<- Array.getElem?_toList,e0']
   rw[List.getElem?_drop] at ho'
   exact ho'
  have hq:=yV hk3
  injection hq with _ hq
  injection hq with ht hq
  injection hq with hh _
  simp only[List.map_cons,List.map_nil,List.cons.injEq,and_true] at ht hh
  obtain⟨t9,t10,t11,t12⟩:=ht
  obtain⟨E3,hs3⟩:=hs3
  have U3:∀i,i∈[801,802,811,812,813]->apU noU [801,802,811,812,813] i=true:=fun i hi=>(yU (ts:=[]) (hs:=[])).2 hi
  have σ3:∀i,i∈[801,802,811,812,813]->E3.sv i=EG.sv i:=fun i hi=>hs3.le.sv i (U3 i hi)
  have l12:jF E3 z.heap 13159:=⟨_,hh,trivial⟩
  have ge12:w2.heap.size<=E3.ρ 13159:=(hs3.heap.mine _ l12).elim (fun h=>h.elim) id
  have lt12:=hs3.heap.jV l12
  have K3' : ∀b,E2.I b->w3.heap[b]? = w2.heap[b]?:=fun b hb=>hs3.le.heap b (by rw[hGI];exact hb)
  have up3:∀(ty:Ty)(d:ty.den)(v:List Value),zG E2.I w2 ty d v->zG E2.I w3 ty d v:=fun ty d v hd=>zG.mono (fun b hb=>hb) K3' _ _ _ hd
  have m:=hs3.tmps 9 (show 9<159 by decide)
  have x10:=hs3.tmps 10 (show 10<159 by decide)
  have x11:=hs3.tmps 11 (show 11<159 by decide)
  have x12:=hs3.tmps 12 (show 12<159 by decide)
  rw[t9] at m
  rw[t10] at x10
  rw[t11] at x11
  rw[t12] at x12
  unfold Rep at m x10 x11 x12
  obtain⟨_,zM,ty,q12,p12⟩:=hs3.heap.ob 13159 _ hh
  have k12:=ex_repL (by rfl) p12
  simp only[List.map_cons,List.map_nil,exV] at k12
  rw[vH (by rfl) p12.length,k12] at q12
  have hKlt:∀b,E2.I b->b<w3.heap.size:=fun b hb=>Nat.lt_of_lt_of_le (hs2.heap.lt b hb) hs3.heap.frame.size
  have hsH:=ds_csH (ss:=ss) (ls:=ls) (j:=j) (t:=t) (c:=c) (h:=h) (o:=o) (p:=p) (n:=n) (k:=k) (es:=es) (vs:=vs) (ps:=ps) (K:=E2.I) (sv:=E3.sv) (b:=E3.ρ 13159) (rc:=E3.rc) (ρ:=E3.ρ) hs3.size rfl m.2.1 x10.2.1 x11 x12.2
   (by rw[σ3 801 (by decide)];exact up3 _ _ _ d9) (by rw[σ3 802 (by decide)];exact up3 _ _ _ d10) (by rw[σ3 811 (by decide)];exact up3 _ _ _ d1) (by rw[σ3 812 (by decide)];exact up3 _ _ _ d2) (by rw[σ3 813 (by decide)];exact up3 _ _ _ d3)
   ⟨ty,q12⟩ (fun hk=>absurd (hs2.heap.lt _ hk) (Nat.not_lt.2 ge12)) hKlt
  have f3:Frm w0 (fun b=>w0.heap.size<=b) w3:=Go.MB.Frm.up f2 hs3.heap.frame (fun _ x=>x.elim)
  have mk3:zL w0.heap.size w3 E2.I a3.defers:=(zL.step hs3 f2.size (by rw[hGI];exact mk2) (fun b hb=>hb.elim)).fM (fun b hb=>rfl) (fun b _ hb=>hs3.le.imm b (by rw[hGI];exact hb))
  show (yZ 1 kD).wpIn (FR none) 0 P _ a3 w3
  refine ds_cond ⟨_,hsH⟩ rfl hS ⟨h0,hjs⟩ ⟨h0,hjl⟩ s1 s9 fun y a6 w6 hs6 hq6=>?_
  obtain⟨E6,hs6⟩:=hs6
  injection hq6 with _ hq6
  injection hq6 with ht6 hq6
  injection hq6 with hh6 _
  simp only[List.map_cons,List.map_nil,List.cons.injEq,and_true] at ht6 hh6
  obtain⟨u9,u10,u11,u12,u13,u17⟩:=ht6
  obtain⟨c1,c14,cn1,cn2,cn3,-,-,-,-,-⟩:=hh6
  have U6:∀i,i∈[1,801,802,811,812,813]->apU noU [1,801,802,811,812,813] i=true:=fun i hi=>(yU (ts:=[]) (hs:=[])).2 hi
  have σ6:∀i,i∈[1,801,802,811,812,813]->E6.sv i=E3.sv i:=fun i hi=>hs6.le.sv i (U6 i hi)
  have ρ6:E6.ρ 1=E3.ρ 13159:=hs6.le.rho 1 (U6 1 (by decide))
  have l1:jF E6 y.heap 1:=⟨_,c1,trivial⟩
  have l14:jF E6 y.heap 14159:=⟨_,c14,trivial⟩
  have K6:∀b,E2.I b->w6.heap[b]? = w3.heap[b]?:=hs6.le.heap
  have KE6:∀b,E2.I b->E6.I b:=hs6.le.imm
  have up6:∀(ty:Ty)(d:ty.den)(v:List Value),zG E2.I w2 ty d v->zG E2.I w6 ty d v:=fun ty d v hd=>zG.mono (fun b hb=>hb) K6 _ _ _ (up3 ty d v hd)
  have hJN:∀b,E6.I b->E6.ρ 1<=b->w3.heap.size<=b:=fun b hb hle=>by
   rcases hs6.fresh b hb with hx |hx |hx
   ·have:=hs2.heap.lt b hx
    rw[ρ6] at hle
    omega
   ·exact absurd hb (by
     have hx:b=E3.ρ 13159:=hx
     rw[hx,<- ρ6];exact hs6.heap.imm _ l1)
   ·exact hx
  have hbN:w3.heap.size<=E6.ρ 14159:=by
   rcases hs6.heap.mine 14159 l14 with hx |hx
   ·have hx:E6.ρ 14159=E3.ρ 13159:=hx
    exact absurd (hs6.heap.inj _ _ l14 l1 (hx.trans ρ6.symm)) (by decide)
   ·exact hx
  have mk6:zL w0.heap.size w6 E6.I a6.defers:=zL.step hs6 f3.size mk3 (fun b hb hd=>by
   have hb:b=E3.ρ 13159:=hb
   have hd:w3.heap[b]? = some (.deferred (some [])):=hd
   rw[hb,q12] at hd
   cases hd)
  have scr:=ds_scr (N:=w3.heap.size) (Nm:=w0.heap.size) (K:=E2.I) hs6 rfl u9 u10 u11 u12 u13 u17 c14 cn1 cn2 cn3 hJN hbN mk6 hs6.heap.frame.size (Nat.le_trans f3.size hs6.heap.frame.size) KE6
  have f6:Frm w0 (fun b=>w0.heap.size<=b) w6:=Go.MB.Frm.up f3 hs6.heap.frame (fun b hb=>by
   have hb:b=E3.ρ 13159:=hb
   rw[hb];exact Nat.le_trans f2.size ge12)
  refine loops_ok (dS_short _ _).1 scr fun d' a8 w8 hs8=>?_
  obtain⟨J8,hJ8,hst8,mk8⟩:=hs8.st
  have f8:Frm w0 (fun b=>w0.heap.size<=b) w8:=Go.MB.Frm.up f6 hs8.fr (fun b hb=>Nat.le_trans f3.size hb)
  have old8:∀b,b<w3.heap.size->w8.heap[b]? = w6.heap[b]?:=fun b hb=>hs8.fr.block b (Nat.lt_of_lt_of_le hb hs6.heap.frame.size) (Nat.not_le.2 hb)
  have up8:∀(ty:Ty)(d:ty.den)(v:List Value),zG E2.I w2 ty d v->zG E2.I w8 ty d v:=fun ty d v hd=>zG.mono (fun b hb=>hb) (fun b hb=>old8 b (hKlt b hb)) _ _ _ (up6 ty d v hd)
  obtain⟨_,vals6,ty6,q1,p1⟩:=hs6.heap.ob 1 _ c1
  have k1:=ex_repL (by rfl) p1
  simp only[List.map_cons,List.map_nil,exV] at k1
  rw[vH (by rfl) p1.length,k1] at q1
  have g:=hst8.tmps 9 (show 9<159 by decide)
  have y10:=hst8.tmps 10 (show 10<159 by decide)
  have y11:=hst8.tmps 11 (show 11<159 by decide)
  have y12:=hst8.tmps 12 (show 12<159 by decide)
  have g:Rep { E6 with I:=J8 } (apU noU [1,801,802]) w8 (.own 801) (a8.tmps.getD 9 undef):=g
  have y10:Rep { E6 with I:=J8 } (apU noU [1,801,802]) w8 (.own 802) (a8.tmps.getD 10 undef):=y10
  have y11:Rep { E6 with I:=J8 } (apU noU [1,801,802]) w8 (.int .i64 j) (a8.tmps.getD 11 undef):=y11
  have y12:Rep { E6 with I:=J8 } (apU noU [1,801,802]) w8 (.ptr 1 0) (a8.tmps.getD 12 undef):=y12
  unfold Rep at g y10 y11 y12
  have ss6:∀i,i∈[801,802,811,812,813]->E6.sv i=EG.sv i:=fun i hi=>(σ6 i (List.mem_cons_of_mem _ hi)).trans (σ3 i hi)
  have hsL:=ds_csH (ss:=ss) (ls:=ls) (j:=j) (t:=t) (c:=c) (h:=h) (o:=o) (p:=p) (n:=n) (k:=k) (es:=es) (vs:=vs) (ps:=ps) (K:=E2.I) (sv:=E6.sv) (b:=E6.ρ 1) (rc:=E6.rc) (ρ:=E6.ρ) hst8.size rfl g.2.1 y10.2.1 y11 y12.2
   (by rw[ss6 801 (by decide)];exact up8 _ _ _ d9) (by rw[ss6 802 (by decide)];exact up8 _ _ _ d10) (by rw[ss6 811 (by decide)];exact up8 _ _ _ d1) (by rw[ss6 812 (by decide)];exact up8 _ _ _ d2) (by rw[ss6 813 (by decide)];exact up8 _ _ _ d3)
   ⟨ty6,by rw[old8 _ (by rw[ρ6];exact lt12)];exact q1⟩ (fun hk=>hs6.heap.imm _ l1 (KE6 _ hk)) (fun b hb=>Nat.lt_of_lt_of_le (hKlt b hb) (Nat.le_trans hs6.heap.frame.size hs8.fr.size))
  refine ds_last ⟨_,hsL⟩ rfl hS ⟨h0,hjs⟩ h4 s1 fun C a9 w9 hs9 hq9=>?_
  obtain⟨E9,hs9⟩:=hs9
  injection hq9 with _ hq9
  injection hq9 with ht9 _
  simp only[List.map_cons,List.map_nil,List.cons.injEq,and_true] at ht9
  obtain⟨v9,v10,v11⟩:=ht9
  have σ9:∀i,i∈[1,801,802,811,812,813]->E9.sv i=E6.sv i:=fun i hi=>hs9.le.sv i (U6 i hi)
  have K9:∀b,E2.I b->w9.heap[b]? = w8.heap[b]?:=hs9.le.heap
  have up9:∀(ty:Ty)(d:ty.den)(v:List Value),zG E2.I w2 ty d v->zG E2.I w9 ty d v:=fun ty d v hd=>zG.mono (fun b hb=>hb) K9 _ _ _ (up8 ty d v hd)
  have z9:=hs9.tmps 9 (show 9<159 by decide)
  have z10:=hs9.tmps 10 (show 10<159 by decide)
  have z11:=hs9.tmps 11 (show 11<159 by decide)
  rw[v9] at z9
  rw[v10] at z10
  rw[v11] at z11
  unfold Rep at z9 z10 z11
  have mk8' : zL w0.heap.size w8 E2.I a8.defers:=mk8.fM (fun b hb=>rfl) (fun b _ hb=>.inr hb)
  have mk9:=zL.step hs9 f8.size mk8' (fun b hb hd=>by
   have hb:b=E6.ρ 1:=hb
   have hd:w8.heap[b]? = some (.deferred (some [])):=hd
   rw[hb,old8 _ (by rw[ρ6];exact lt12),q1] at hd
   cases hd)
  refine⟨rfl,E2.I,?_,mk9.fM (fun b hb=>rfl) (fun b _ hb=>hs9.le.imm b hb),Go.MB.Frm.up f8 hs9.heap.frame (fun b hb=>by
   have hb:b=E6.ρ 1:=hb
   rw[hb,ρ6];exact Nat.le_trans f2.size ge12)⟩
  refine wA (us:=[]) hs9.size rfl ?_ (fun k o hk=>by cases hk) (fun _ _ _ _ hj=>by cases hj) (fun _ _ hk=>by cases hk) (fun b hb=>hs9.heap.lt b (hs9.le.imm b hb))
  intro q hq
  simp only[List.mem_cons,List.not_mem_nil,or_false] at hq
  rcases hq with rfl |rfl |rfl
  ·unfold Rep;rw[z9.2.1,σ9 801 (by decide),ss6 801 (by decide)];exact up9 _ _ _ d9
  ·unfold Rep;rw[z10.2.1,σ9 802 (by decide),ss6 802 (by decide)];exact up9 _ _ _ d10
  ·unfold Rep;exact z11
 |_=>
  have h6:=congrArg (·.1) (show (_:Exit×List SV×List (Option Ob)×List Bool)=_ from hk1)
  cases h6
theorem fin_true{I:Nat->Prop}{w w1 w2:World}{E:En}{U:Nat->Bool}{v:Value}(hI:∀b,I b->b<w.heap.size) (f:Frm w (fun b=>w.heap.size<=b) w1) (g1:w2.os=w1.os) (g2:w2.tape=w1.tape) (g3:w2.output=w1.output) (g4:w2.drawn=w1.drawn) (g5:w2.heap.size=w1.heap.size)
  (g6:∀b,(w.heap.size<=b->w1.heap[b]? ≠ some (.deferred (some [])))->w2.heap[b]? = w1.heap[b]?) (hrep:Rep E U w2 (.bool true) v) :
  qL (.bool true)=true/\∃v',Ending.returned v = .returned v'/\Frm w (fun _=>False) w2/\∃I',(∀b,I b->I' b)/\(∀b,I' b->I b\/w.heap.size<=b)/\(∀b,I' b->b<w2.heap.size)/\Rep (E0 I') noU w2 (.bool true) v':=by
 refine⟨rfl,v,rfl,⟨g1.trans f.os,g2.trans f.tape,g3.trans f.output,by rw[g5];exact f.size,by rw[g4];exact f.drawn,fun b hb _=>(g6 b fun hN=>absurd hb (Nat.not_lt.2 hN)).trans (f.block b hb (Nat.not_le.2 hb))⟩,I,fun b h=>h,fun b h=>.inl h,fun b h=>Nat.lt_of_lt_of_le (hI b h) (by rw[g5];exact f.size),?_⟩
 unfold Rep at hrep ⊢
 exact hrep
def RX(w0:World)(a:Act)(w:World):Prop :=
 ∃I:Nat->Prop,SatE ⟨w,fun _=>False,E0 I,apU noU [],159,a.defers⟩ (E0 I) (wZ [] [] []) a w/\zL w0.heap.size w I a.defers/\Frm w0 (fun b=>w0.heap.size<=b) w
theorem RInv.head{w0:World}{ss:List zE}{ls:List zN}{j:Int}{a:Act}{w:World}(h:RInv w0 ss ls j a w):a.tmps.getD 11 undef = .int .i64 j:=by
 obtain⟨I,hs,_,_⟩:=h
 have:=hs.tmps 11 (show 11<159 by decide)
 have this:Rep (E0 I) noU w (.int .i64 j) (a.tmps.getD 11 undef):=this
 unfold Rep at this
 exact this
set_option maxRecDepth 100000 in
theorem ds_exit{w0:World}{ss:List zE}{ls:List zN}{a:Act}{w:World}(h:RInv w0 ss ls 4 a w):rdDs.wpIn (FR none) 0 P (fun e a' w' =>e = .exit 0/\RX w0 a' w') a w:=by
 obtain⟨I,hs,mk,f⟩:=h
 have e1:rdDs = .seq hdDs (.seq (.block 1 kD) nxDs):=by kernel_rfl
 rw[e1]
 refine wpIn_seq (jA hm (r0:=none) (u0:=noU) (cx:=[]) (lp:=fun _=>none) (ys:=[]) (B:=⟨w,fun _=>False,E0 I,noU,159,a.defers⟩) (Q:=fun x=>x=(Exit.exit 0,[],[],[])) (fun k hk=>hk) (fun h hh=>by cases hh) hdDs 0 (csF ss ls 4) (fun _=>none) kLB _ (vQ _ _ _ _) (jP _ _) ?_ ?_ a w ⟨E0 I,hs⟩)
 ·have hT:=T_lB ss ls 4
  rw[hT]
  exact⟨fun c=>absurd (dcT c) (by decide),fun _=>rfl⟩
 intro e d K1 a1 w1 hK1 hs1 hk1
 obtain⟨E1,hs1⟩:=hs1
 have fin:RX w0 a1 w1:=by
  refine⟨E1.I,?_,(zL.step hs1 f.size mk (fun b hb=>hb.elim)),Go.MB.Frm.up f hs1.heap.frame (fun _ x=>x.elim)⟩
  exact sat_pick (E1:=E0 E1.I) (us:=[]) hs1 rfl (fun k hk=>by cases hk) (fun k hk=>by cases hk) [] (fun p hp=>by cases hp)
 cases e with
 |normal=>
  obtain⟨r,g,K2,_,_,_,hk2⟩:=yY (P:=P) _ d K1 [] hK1 (show (jQ (P:=P) [c_rCopy.gc] 159 (vI r9Ds) false ((vL r9Ds).take 5) d K1 [] (fun S _=>obs [9,10,11,49] [] [] .normal S)).holds _ from hk1)
  have hq:=yV hk2
  have:=congrArg (·.1) hq
  cases this
 |exit id=>
  have h6:=congrArg (·.1) (show (Exit.exit id,([]:List SV),([]:List (Option Ob)),([]:List Bool))=_ from hk1)
  exact⟨h6,fin⟩
 |goto l=>
  have h6:=congrArg (·.1) (show (Exit.goto l,([]:List SV),([]:List (Option Ob)),([]:List Bool))=_ from hk1)
  cases h6
 |ret=>
  have h6:=congrArg (·.1) (show (Exit.ret,([]:List SV),([]:List (Option Ob)),([]:List Bool))=_ from hk1)
  cases h6
 |panic ch=>
  have h6:=congrArg (·.1) (show (Exit.panic ch,([]:List SV),([]:List (Option Ob)),([]:List Bool))=_ from hk1)
  cases h6
 |outgrown=>
  have h6:=congrArg (·.1) (show (Exit.outgrown,([]:List SV),([]:List (Option Ob)),([]:List Bool))=_ from hk1)
  cases h6
theorem ds_loop{w0:World}{ss:List zE}{ls:List zN}{a:Act}{w:World}(hok:SitesOk ss ls) (h:RInv w0 ss ls 0 a w) :
  (Code.block 0 (.loop rdDs)).wpIn (FR none) 0 P (fun e a' w' =>e = .normal/\RX w0 a' w') a w:=by
 refine wpIn_block (wpIn_loop (fun a w=>∃j,0<=j/\j<=4/\RInv w0 ss ls j a w) (fun a _=>(4 - (match a.tmps.getD 11 undef with
  |.int _ n=>n
  |_=>0)).toNat) ⟨0,Int.le_refl _,by decide,h⟩ ?_)
 rintro a w ⟨j,h0,h4,hj⟩
 by_cases hlt:j<4
 ·refine wpIn_mono (ds_round hok hj h0 hlt) ?_
  rintro e a' w' ⟨rfl,hj'⟩
  refine⟨⟨j+1,by omega,by omega,hj'⟩,?_⟩
  simp only[hj.head,hj'.head]
  omega
 ·obtain rfl:j=4:=by omega
  refine wpIn_mono (ds_exit hj) ?_
  rintro e a' w' ⟨rfl,hx⟩
  have key:Exit.inBlock 0 (fun e a' w' =>e=Exit.normal/\RX w0 a' w') (.exit 0) a' w':=by
   simp only[Exit.inBlock,if_true]
   exact⟨trivial,hx⟩
  exact key
set_option maxRecDepth 100000 in
theorem does_ok{t c h o p:Int}{es:List E4}{vs:List (List Int)}{n:Int}{ps:List Pm}{k:Int}{e0 e1 e2 e3 e4 e5:Int}{nums:List Int} :
  FnOk P 3 (z_ 0 [.agg zR,.agg jE,.val (.sl tI)] ((t,c,h,o,p,(es,vs,n),ps,k),(e0,e1,e2,e3,e4,e5),nums,())) (.bool true):=by
 intro I w zM hI hr
 have hf:P.funcs[3]? = some Tryz.f3:=by kernel_rfl
 have hc:Tryz.f3.body=some bDs:=by kernel_rfl
 have hn:Tryz.f3.ntmps=159:=by kernel_rfl
 have hcut:yZ 5 bDs = .seq (.seq (yR lpDs) (.block 0 (.loop rdDs))) endDs:=by kernel_rfl
 refine (callsIn_wide (n:=0)).1 (callsIn_of_wp_marks (F:=FR none) hf hc trivial ?_ rfl)
 rw[hn]
 have hsat:=start_sat (n:=159) hI (by show 3<=159;decide) hr
 refine execCut hm (r0:=none) (u0:=noU) (cx:=[c_BigSite.gc,c_awake.gc,c_NewRing.gc,c_SiteOf.gc,c_EntryOf.gc]) (lp:=fun _=>none) (ys:=[]) (B:=⟨w,fun _=>False,E0 I,noU,159,[]⟩)
  (Q:=fun x=>x = .inr true\/∃ (ss:List zE) (ls:List zN),x = .inl (ss,ls,(0:Int),())/\SitesOk ss ls) (fun k hk=>by cases hk) (fun h hh=>by cases hh) 5 bDs 0
  (fW (z_ 0 [.agg zR,.agg jE,.val (.sl tI)] ((t,c,h,o,p,(es,vs,n),ps,k),(e0,e1,e2,e3,e4,e5),nums,()))) (fun _=>none) kLA _ (vQ _ _ _ _) (jP _ _) ?_ ?_ _ w ⟨E0 I,hsat⟩
 ·have hT:=T_lA t c h o p es vs n ps k e0 e1 e2 e3 e4 e5 nums
  rw[hT]
  refine⟨fun _=>.inl rfl,fun c1=>?_⟩
  have k1:=Bool.or_eq_false_iff.1 c1
  have k2:=dcF k1.2
  have s1:sOk (t,c,h,o,p,(es,vs,n),ps,k):=⟨bigH_ok k1.1,by dsimp only;omega⟩
  have hpr:kF ((),nums,0,()):=⟨by decide,by decide⟩
  have hZ:=S_SiteOf _ hpr
  refine⟨hpr,?_⟩
  generalize yT ((),nums,0,())=sk at *
  obtain⟨z0,z1,z2⟩:SiteV sk.1/\0<=sk.2/\sk.2<=0+1000:=hZ
  have hp1:xA ((),sk.1,80,nums,sk.2,()):=⟨z0,by decide,by decide,z1,by omega⟩
  have hE:=S_EntryOf _ hp1
  refine⟨hp1,?_⟩
  generalize pI ((),sk.1,80,nums,sk.2,())=ek at *
  have u:sk.2<=ek.2:=hE.1
  have z:ek.2<=sk.2+100:=hE.2.1
  have hp2:xA ((),sk.1,3,nums,ek.2,()):=⟨z0,by decide,by decide,by omega,by omega⟩
  refine⟨hp2,?_⟩
  generalize pI ((),sk.1,3,nums,ek.2,())=fk
  refine .inr ⟨[(t,c,h,o,p,(es,vs,n),ps,k),sk.1,sk.1,sk.1],[(e0,e1,e2,e3,e4,e5),(e0,e1,e2,e3,e4,e5),ek.1,fk.1],rfl,rfl,rfl,?_⟩
  have l4:sk.1.2.2.2.2.2.2.1.length<=900:=by have:=z0.l4;omega
  intro s hs
  simp only[List.mem_cons,List.not_mem_nil,or_false] at hs
  rcases hs with rfl |rfl |rfl |rfl
  ·exact⟨s1,by dsimp only;omega⟩
  ·exact⟨z0.sOk,l4⟩
  ·exact⟨z0.sOk,l4⟩
  ·exact⟨z0.sOk,l4⟩
 intro e S' K' a w1 hK' hs' hk
 cases e with
 |ret=>
  obtain⟨b,hres,hq⟩:=obsB_holds (P:=P) (n:=159) (fn:=Tryz.f3) (S:=S') (k:=fun b=>(Tree.leaf (Sum.inr b):Tree (LB.den ⊕ Bool))) (show (obsB P 159 Tryz.f3 S' fun b=>(Tree.leaf (.inr b):Tree (LB.den ⊕ Bool))).holds _ from hk)
  obtain⟨E',hsE⟩:=hs'
  have hb:b=true:=by
   rcases (show _\/_ from hq) with hq |⟨_,_,hq,_⟩
   ·injection hq
   ·cases hq
  subst hb
  show LeavesInM (FR none) 0 P _ a.tmps _ a.defers .returning w1
  refine leaves_of hsE (zL.step hsE (Nat.le_refl _) (zL.nil _ _ _) (fun b hb=>hb.elim)) hres fun v w2 g1 g2 g3 g4 g5 g6 hs7 hrep=>?_
  exact fin_true hI ((Frm.refl w _).trans' hsE.heap.frame fun _ _ _ x=>x) g1 g2 g3 g4 g5 g6 hrep
 |normal=>
  show (yZ 5 bDs).wpIn (FR none) 0 P _ a w1
  rw[hcut]
  refine wpIn_seq (wpIn_seq (jA hm (r0:=none) (u0:=noU) (cx:=[]) (lp:=fun _=>none) (ys:=[]) (B:=⟨w,fun _=>False,E0 I,noU,159,[]⟩) (Q:=fun x=>x = .inr true\/∃ (ss:List zE) (ls:List zN),x = .inl (ss,ls,(0:Int),())/\SitesOk ss ls) (fun k hk=>hk) (fun h hh=>by cases hh) (yR lpDs) 0 S' K' kLA1 _ (vQ _ _ _ _) hK' hk ?_ a w1 hs'))
  intro e g K2 a2 w2 hK2 hs2 hk2
  cases e with
  |normal=>
   show (Code.block 0 (.loop rdDs)).wpIn (FR none) 0 P _ a2 w2
   unfold kLA1 at hk2
   dsimp only at hk2
   split at hk2
   ·rename_i y hy
    rcases (show _\/_ from hk2) with hq |⟨ss,ls,hq,hok⟩
    ·cases hq
    ·injection hq with hq
     subst hq
     have hL:LB.ok noU=true:=by kernel_rfl
     obtain⟨E3,hs3⟩:=Lay.sat hL (fun k hk=>hk) hy hs2
     have r9:=hs3.tmps 9 (show 9<159 by decide)
     have r10:=hs3.tmps 10 (show 10<159 by decide)
     have r11:=hs3.tmps 11 (show 11<159 by decide)
     have hR:RInv w ss ls 0 a2 w2:=by
      refine⟨E3.I,?_,zL.step hs3 (Nat.le_refl _) (zL.nil _ _ _) (fun b hb=>hb.elim),(Frm.refl w _).trans' hs3.heap.frame fun _ _ _ x=>x⟩
      refine wA (us:=[]) hs3.size rfl ?_ (fun k o hk=>by cases hk) (fun _ _ _ _ hj=>by cases hj) (fun _ _ hk=>by cases hk) hs3.heap.lt
      intro q hq
      simp only[List.mem_cons,List.not_mem_nil,or_false] at hq
      rcases hq with rfl |rfl |rfl
      ·exact zI (E:=E3) (E':=E0 E3.I) rfl (.sl zR ss) _ (by rfl) r9
      ·exact zI (E:=E3) (E':=E0 E3.I) rfl (.sl jE ls) _ (by rfl) r10
      ·exact zI (E:=E3) (E':=E0 E3.I) rfl (.int .i64 0) _ (by rfl) r11
     refine wpIn_mono (ds_loop hok hR) ?_
     rintro e a4 w4 ⟨rfl,I4,hs4,mk4,f4⟩
     show endDs.wpIn (FR none) 0 P _ a4 w4
     refine jA hm (r0:=none) (u0:=apU noU []) (cx:=[c_awake.gc]) (lp:=fun _=>none) (ys:=[]) (B:=⟨w4,fun _=>False,E0 I4,apU noU [],159,a4.defers⟩) (Q:=fun x=>x=(Exit.ret,true)) (fun k hk=>hk) (fun h hh=>by cases hh) endDs 0 (wZ [] [] []) (fun _=>none) (fun e S _=>obsB P 159 Tryz.f3 S fun b=>.leaf (e,b)) _ (vQ _ _ _ _) (jP _ _) ?_ ?_ a4 w4 ⟨_,hs4⟩
     ·have hT:=T_lG ss ls 0
      rw[hT]
      exact rfl
     rintro e m K5 a5 w5 _ ⟨E5,hs5⟩ hk5
     obtain⟨b,hres,hq⟩:=obsB_holds (P:=P) (n:=159) (fn:=Tryz.f3) (S:=m) (k:=fun b=>.leaf (e,b)) hk5
     injection (show (e,b)=(Exit.ret,true) from hq) with he hb
     subst he
     subst hb
     show LeavesInM (FR none) 0 P _ a5.tmps _ a5.defers .returning w5
     refine leaves_of hs5 (zL.step hs5 f4.size mk4 (fun b hb=>hb.elim)) hres fun v w6 g1 g2 g3 g4 g5 g6 hs7 hrep=>?_
     exact fin_true hI (Go.MB.Frm.up f4 hs5.heap.frame (fun _ x=>x.elim)) g1 g2 g3 g4 g5 g6 hrep
   ·exact hk2.elim
  |_=>exact hk2.elim
 |_=>exact hk.elim
theorem does_fn(x:wM [.agg zR,.agg jE,.val (.sl tI)]):FnOk P 3 (z_ 0 [.agg zR,.agg jE,.val (.sl tI)] x) (.bool true):=by
 obtain⟨⟨t,c,h,o,p,⟨es,vs,n⟩,ps,k⟩,⟨e0,e1,e2,e3,e4,e5⟩,nums,⟨⟩⟩:=x
 exact does_ok
def c_BarrierDoes:PC P where
 f:=3
 ps:=[.agg zR,.agg jE,.val (.sl tI)]
 pre:=fun _=>none
 out:=fun _=>.bool true
 ent:=by kernel_rfl
 ok:=fun x _=>does_fn x
end
end Go.MB
