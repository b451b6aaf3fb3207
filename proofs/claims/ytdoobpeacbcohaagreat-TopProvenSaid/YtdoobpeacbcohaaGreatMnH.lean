/- Logs: what is written is read. -/
import Derived.Test.YtdoobpeacbcohaaGreatMnG
namespace Go.MB
open Go Go.Sx Go.Proofs
set_option linter.unusedVariables false
set_option linter.unusedSimpArgs false
noncomputable section
abbrev BS (l:List Int):ByteArray:=strOfNums l
theorem bs_size (l:List Int):(BS l).size = l.length:=strOfNums_size l
theorem bs_drop (a r:List Int) (n m:Nat) (hn:n = a.length) (hm:m = (a ++ r).length):(BS (a ++ r)).extract n m = BS r:=by
  subst hn hm
  apply ByteArray.ext
  rw [ByteArray.data_extract]
  apply Array.toList_inj.1
  rw [Array.toList_extract]
  show List.extract ((a ++ r).map fun n => UInt8.ofNat n.toNat) a.length (a ++ r).length = r.map fun n => UInt8.ofNat n.toNat
  rw [List.extract_eq_take_drop,List.map_append,List.drop_append_of_le_length (by simp),List.drop_eq_nil_of_le (by simp),List.nil_append,List.take_of_length_le (by simp)]
theorem bs_take (a r:List Int) (n:Nat) (hn:n = a.length):(BS (a ++ r)).extract 0 n = BS a:=by
  subst hn
  apply ByteArray.ext
  rw [ByteArray.data_extract]
  apply Array.toList_inj.1
  rw [Array.toList_extract]
  show List.extract ((a ++ r).map fun n => UInt8.ofNat n.toNat) 0 a.length = a.map fun n => UInt8.ofNat n.toNat
  rw [List.extract_eq_take_drop,List.map_append,List.drop_zero,Nat.sub_zero,List.take_append_of_le_length (by simp),List.take_of_length_le (by simp)]
theorem byteAt_bs (l:List Int) (i:Nat) (h:0 ≤ l.getD i 0 ∧ l.getD i 0 < 256):(byteAt (BS l) i).toNat = (l.getD i 0).toNat:=by
  unfold byteAt
  rw [show (BS l).data.toList = l.map fun n => UInt8.ofNat n.toNat from rfl,Int.toNat_natCast]
  have e:(l.map fun n => UInt8.ofNat n.toNat).getD i 0 = UInt8.ofNat (l.getD i 0).toNat:=by
    rw [List.getD_eq_getElem?_getD,List.getD_eq_getElem?_getD,List.getElem?_map]
    cases l[i]? with
    | none => rfl
    | some x => rfl
  rw [e,UInt8.toNat_ofNat']
  omega
def u64 (n:Int):Nat:=(IntKind.wrap .u64 n).toNat
theorem u64_lt (n:Int):u64 n < 18446744073709551616:=by
  unfold u64
  rw [IntKind.wrap_u64]
  omega
theorem u64_cast (n:Int):IntKind.wrap .u64 n = (u64 n:Int):=by
  unfold u64
  rw [IntKind.wrap_u64]
  omega
theorem byA_at (n:Int) (j:Nat):IntKind.wrap .u8 (shrI .u64 (IntKind.wrap .u64 n) (j:Int)) = ((u64 n / 2 ^ min j 64 % 256:Nat):Int):=by
  rw [u64_cast]
  unfold shrI
  rw [Int.toNat_natCast,Int.fdiv_eq_ediv_of_nonneg _ (by
    have:(0:Int) < 2 ^ min j IntKind.u64.bits:=Int.pow_pos (by decide)
    omega)]
  rw [show (IntKind.u64).bits = 64 from rfl,IntKind.wrap_u8]
  generalize u64 n = u
  generalize min j 64 = k
  rw [Int.natCast_emod,Int.natCast_ediv,Int.natCast_pow]
  rfl
theorem byA_eq (n:Int):byA n 8 56 = [((u64 n / 2 ^ 56 % 256:Nat):Int),((u64 n / 2 ^ 48 % 256:Nat):Int),((u64 n / 2 ^ 40 % 256:Nat):Int),((u64 n / 2 ^ 32 % 256:Nat):Int),((u64 n / 2 ^ 24 % 256:Nat):Int),((u64 n / 2 ^ 16 % 256:Nat):Int),((u64 n / 2 ^ 8 % 256:Nat):Int),((u64 n / 2 ^ 0 % 256:Nat):Int)]:=by
  have h:=byA_at n
  have e:∀ j:Nat,j ≤ 56 → IntKind.wrap .u8 (shrI .u64 (IntKind.wrap .u64 n) (j:Int)) = ((u64 n / 2 ^ j % 256:Nat):Int):=fun j hj => by
    rw [h j,Nat.min_eq_left (by omega)]
  unfold byA byA byA byA byA byA byA byA byA
  exact congr (congrArg _ (e 56 (by decide))) (congr (congrArg _ (e 48 (by decide))) (congr (congrArg _ (e 40 (by decide))) (congr (congrArg _ (e 32 (by decide))) (congr (congrArg _ (e 24 (by decide))) (congr (congrArg _ (e 16 (by decide))) (congr (congrArg _ (e 8 (by decide))) (congr (congrArg _ (e 0 (by decide))) rfl)))))))
theorem digit (u k:Nat):u / 2 ^ (k + 8) * 256 + u / 2 ^ k % 256 = u / 2 ^ k:=by
  rw [Nat.pow_add,← Nat.div_div_eq_div_mul]
  omega
theorem fd_eq (n:Int) (r:List Int):fdB (BS (byA n 8 56 ++ r)) 8 0 0 = u64 n:=by
  have hu:=u64_lt n
  rw [byA_eq]
  generalize u64 n = u at *
  have b:∀ (l:List Int) (i:Nat) (x:Nat),l.getD i 0 = ((x % 256:Nat):Int) → (byteAt (BS l) i).toNat = x % 256:=fun l i x h => by
    rw [byteAt_bs l i (by rw [h]; omega),h,Int.toNat_natCast]
  unfold fdB fdB fdB fdB fdB fdB fdB fdB fdB
  rw [b _ _ (u / 2 ^ 56) rfl,b _ _ (u / 2 ^ 48) rfl,b _ _ (u / 2 ^ 40) rfl,b _ _ (u / 2 ^ 32) rfl,b _ _ (u / 2 ^ 24) rfl,b _ _ (u / 2 ^ 16) rfl,b _ _ (u / 2 ^ 8) rfl,b _ _ (u / 2 ^ 0) rfl]
  rw [show 0 * 256 + u / 2 ^ 56 % 256 = u / 2 ^ 56 by omega,digit u 48,digit u 40,digit u 32,digit u 24,digit u 16,digit u 8,digit u 0]
  omega
theorem next_bs {n:Int} (h:i64 n) (r:List Int) (bad:Bool):nextS (BS (byA n 8 56 ++ r),bad) = (n,BS r,bad):=by
  unfold nextS
  dsimp only
  rw [bs_size,if_neg (by rw [List.length_append,byA_len]; omega),fd_eq,bs_drop _ _ _ _ (byA_len n 8 56).symm rfl]
  have e:IntKind.wrap .i64 (u64 n:Int) = n:=by
    rw [← u64_cast,IntKind.wrap_u64,IntKind.wrap_i64]
    obtain ⟨h1,h2⟩:=h
    omega
  rw [e]
abbrev SN (l:List Int):ByteArray:=BS (bysN l)
theorem next_sn {n:Int} (h:i64 n) (r:List Int) (bad:Bool):nextS (SN (n :: r),bad) = (n,SN r,bad):=next_bs h _ bad
theorem rows_sn {α:Type} {rd:Rd → α × Rd} {enc:α → List Int} {ok:α → Prop} (h:∀ x,ok x → ∀ r,rd (SN (enc x ++ r),false) = (x,SN r,false)) {encs:List α → List Int} (e0:encs [] = []) (e1:∀ x l,encs (x :: l) = enc x ++ encs l):∀ (l:List α) (r:List Int),(∀ x ∈ l,ok x) → rowsS rd l.length (SN (encs l ++ r),false) = (l,SN r,false)
  | [],r,_ => by rw [e0]; rfl
  | x :: l,r,hl => by
    rw [e1,List.append_assoc,List.length_cons,rowsS,h x (hl x (List.mem_cons_self ..))]
    dsimp only
    rw [rows_sn h e0 e1 l r fun y hy => hl y (List.mem_cons_of_mem _ hy)]
theorem rw_sn {α:Type} {rd:Rd → α × Rd} {enc:α → List Int} {ok:α → Prop} (h:∀ x,ok x → ∀ r,rd (SN (enc x ++ r),false) = (x,SN r,false)) {encs:List α → List Int} (e0:encs [] = []) (e1:∀ x l,encs (x :: l) = enc x ++ encs l) {most:Int} (hm:most ≤ 1000) (l:List α) (r:List Int) (hl:(l.length:Int) ≤ most) (ho:∀ x ∈ l,ok x):rwS rd most (SN ((l.length:Int) :: (encs l ++ r)),false) = (l,SN r,false):=by
  unfold rwS
  rw [next_sn ⟨by omega,by omega⟩]
  dsimp only
  rw [if_neg (by rw [wi_iff.2 ⟨by omega,hl⟩]; decide),Int.toNat_natCast]
  exact rows_sn h e0 e1 l r ho
abbrev okE (e:E4):Prop:=i64 e.1 ∧ i64 e.2.1 ∧ i64 e.2.2.1 ∧ i64 e.2.2.2
theorem el_sn (e:E4) (h:okE e) (r:List Int):elR (SN ([e.1,e.2.1,e.2.2.1,e.2.2.2] ++ r),false) = (e,SN r,false):=by
  obtain ⟨a,b,c,d⟩:=e
  obtain ⟨h1,h2,h3,h4⟩:=h
  show elR (SN (a :: b :: c :: d :: r),false) = _
  unfold elR
  simp only [next_sn h1,next_sn h2,next_sn h3,next_sn h4]
theorem en_sn (e:Entry) (h:okN e) (r:List Int):enR (SN ([e.1,e.2.1,e.2.2.1,e.2.2.2.1,e.2.2.2.2.1,e.2.2.2.2.2] ++ r),false) = (e,SN r,false):=by
  obtain ⟨a,b,c,d,f,g⟩:=e
  obtain ⟨h1,h2,h3,h4,h5,h6⟩:=h
  show enR (SN (a :: b :: c :: d :: f :: g :: r),false) = _
  unfold enR
  simp only [next_sn h1,next_sn h2,next_sn h3,next_sn h4,next_sn h5,next_sn h6]
abbrev okP (p:Pm):Prop:=i64 p.1 ∧ i64 p.2.1 ∧ i64 p.2.2.1
theorem pm_sn (p:Pm) (h:okP p) (r:List Int):pmR (SN ([p.1,p.2.1,p.2.2.1,oneS p.2.2.2] ++ r),false) = (p,SN r,false):=by
  obtain ⟨a,b,c,d⟩:=p
  obtain ⟨h1,h2,h3⟩:=h
  show pmR (SN (a :: b :: c :: oneS d :: r),false) = _
  unfold pmR
  cases d with
  | true =>
    have h4:i64 (oneS true):=by decide
    simp only [next_sn h1,next_sn h2,next_sn h3,next_sn h4]
    rfl
  | false =>
    have h4:i64 (oneS false):=by decide
    simp only [next_sn h1,next_sn h2,next_sn h3,next_sn h4]
    rfl
theorem int_sn (n:Int) (h:i64 n) (r:List Int):nextS (SN ([n] ++ r),false) = (n,SN r,false):=next_sn h r false
abbrev okQ (q:List Int):Prop:=(q.length:Int) ≤ 10 ∧ ∀ x ∈ q,i64 x
theorem ints_sn (q:List Int) (h:okQ q) (r:List Int):rowsR 10 (SN (((q.length:Int) :: q) ++ r),false) = (q,SN r,false) :=
  rw_sn (rd:=nextS) (enc:=fun n => [n]) (ok:=i64) int_sn (encs:=fun l => l) rfl (fun _ _ => rfl) (by decide) q r h.1 h.2
structure LogOk (s:Site) (l:List Entry):Prop where
  n1:i64 s.1
  n2:i64 s.2.1
  n3:i64 s.2.2.1
  n4:i64 s.2.2.2.1
  n5:i64 s.2.2.2.2.1
  el:(s.2.2.2.2.2.1.1.length:Int) ≤ 10 ∧ ∀ e ∈ s.2.2.2.2.2.1.1,okE e
  ev:(s.2.2.2.2.2.1.2.1.length:Int) ≤ 8 ∧ ∀ q ∈ s.2.2.2.2.2.1.2.1,okQ q
  nd:i64 s.2.2.2.2.2.1.2.2
  pm:(s.2.2.2.2.2.2.1.length:Int) ≤ 16 ∧ ∀ p ∈ s.2.2.2.2.2.2.1,okP p
  br:i64 s.2.2.2.2.2.2.2
  en:(l.length:Int) ≤ 200 ∧ ∀ e ∈ l,okN e
theorem read_sn {s:Site} {l:List Entry} (h:LogOk s l):readR (SN (numsS s l),false) = (s,l,SN [],false):=by
  obtain ⟨n1,n2,n3,n4,n5,el,ev,nd,pm,br,en⟩:=h
  obtain ⟨s0,s1,s2,s3,s4,⟨s5,s6,s7⟩,s8,s9⟩:=s
  dsimp only at n1 n2 n3 n4 n5 el ev nd pm br
  have e1:numsS (s0,s1,s2,s3,s4,(s5,s6,s7),s8,s9) l = s0 :: s1 :: s2 :: s3 :: s4 :: ((s5.length:Int) :: (elsN s5 ++ ((s6.length:Int) :: (envsN s6 ++ (s7 :: ((s8.length:Int) :: (pmsN s8 ++ (s9 :: ((l.length:Int) :: (ensN l ++ [])))))))))):=by
    unfold numsS
    simp only [List.append_assoc,List.cons_append,List.nil_append,List.append_nil]
  rw [e1]
  have a1:=fun r => rw_sn (rd:=elR) (ok:=okE) el_sn (encs:=elsN) rfl (fun _ _ => rfl) (most:=10) (by decide) s5 r el.1 el.2
  have a2:=fun r => rw_sn (rd:=rowsR 10) (enc:=fun q => (q.length:Int) :: q) (ok:=okQ) ints_sn (encs:=envsN) rfl (fun _ _ => rfl) (most:=8) (by decide) s6 r ev.1 ev.2
  have a3:=fun r => rw_sn (rd:=pmR) (ok:=okP) pm_sn (encs:=pmsN) rfl (fun _ _ => rfl) (most:=16) (by decide) s8 r pm.1 pm.2
  have a4:=fun r => rw_sn (rd:=enR) (ok:=okN) en_sn (encs:=ensN) rfl (fun _ _ => rfl) (most:=200) (by decide) l r en.1 en.2
  unfold readR headR
  simp only [next_sn n1,next_sn n2,next_sn n3,next_sn n4,next_sn n5,a1,a2,next_sn nd,a3,next_sn br,a4]
theorem magic_eq:magic = BS [109,112,108,49]:=rfl
theorem cut_log (l:List Int):cutP (BS ([109,112,108,49] ++ l)) magic = (BS l,true):=by
  rw [magic_eq]
  have hz:(BS [109,112,108,49]).size = 4:=bs_size _
  have h:pfxS (BS ([109,112,108,49] ++ l)) (BS [109,112,108,49]) = true:=by
    unfold pfxS
    rw [hz,bs_take [109,112,108,49] l 4 rfl,Bool.and_eq_true]
    refine ⟨decide_eq_true ?_,beq_self_eq_true _⟩
    rw [bs_size,List.length_append]
    exact Nat.le_add_right 4 _
  unfold cutP
  rw [if_pos h,hz,bs_drop [109,112,108,49] l 4 _ rfl (bs_size _)]
theorem read_log {s:Site} {l:List Entry} (h:LogOk s l) (hc:chkS s = 0):logS s l = (BS ([109,112,108,49] ++ bysN (numsS s l)),0) ∧ readS (logS s l).1 = (s,l,0):=by
  have e:logS s l = (BS ([109,112,108,49] ++ bysN (numsS s l)),0):=by
    unfold logS
    rw [if_neg (fun k => k hc),if_neg (by have:=h.en.1; omega)]
  refine ⟨e,?_⟩
  rw [e]
  have key:endS (s,l,SN [],false) = (s,l,0):=by
    unfold endS
    rw [if_neg]
    rintro (k | k | k)
    · cases k
    · exact k (congrArg ByteArray.toList (show SN [] = ByteArray.empty from rfl))
    · exact k hc
  generalize hb:BS ([109,112,108,49] ++ bysN (numsS s l)) = b
  have hz:cutP b magic = (SN (numsS s l),true):=by rw [← hb]; exact cut_log _
  have hr:=read_sn h
  generalize SN (numsS s l) = t at *
  have hx:readR ((cutP b magic).1,!(cutP b magic).2) = (s,l,SN [],false):=by
    rw [hz]
    exact hr
  unfold readS
  rw [hx]
  exact key
theorem elE_rng {e:E4} (h:elE e = 0):okE e:=by
  unfold elE at h
  split at h
  · cases h
  split at h
  · cases h
  rename_i h1 h2
  have a1:wi e.2.1 0 68719476736 = true:=by revert h2; cases wi e.2.1 0 68719476736 <;> simp
  have a2:wi e.2.2.1 0 1099511627776 = true:=by revert h2; cases wi e.2.2.1 0 1099511627776 <;> simp
  have a3:wi e.2.2.2 e.2.2.1 2199023255552 = true:=by revert h2; cases wi e.2.2.2 e.2.2.1 2199023255552 <;> simp
  have a1:=wi_iff.1 a1
  have a2:=wi_iff.1 a2
  have a3:=wi_iff.1 a3
  exact ⟨⟨by omega,by omega⟩,⟨by omega,by omega⟩,⟨by omega,by omega⟩,⟨by omega,by omega⟩⟩
theorem ord_rng:∀ {l:List Pm} {last:Int},ordB last l = false → ∀ p ∈ l,last < p.1 ∧ p.1 < 16
  | [],_,_,p,hp => by cases hp
  | x :: r,last,h,p,hp => by
    rw [ordB,Bool.or_eq_false_iff,Bool.or_eq_false_iff,decide_eq_false_iff_not,decide_eq_false_iff_not] at h
    rcases List.mem_cons.1 hp with rfl | hp
    · exact ⟨by omega,by omega⟩
    · have:=ord_rng h.2.2 p hp
      exact ⟨by omega,by omega⟩
theorem log_ok {s:Site} {l:List Entry} (h:chkS s = 0) (hl:(l.length:Int) ≤ 200) (he:∀ e ∈ l,okN e):LogOk s l:=by
  have hv:=chkS_site h
  obtain ⟨ha,hb1,hb2⟩:=chkS_all h
  have hn:=ha.num
  have hh:=houseE_ok ha.hou
  have hk:=hn.tick
  have hc:=hn.crew
  have hd:=hn.hold
  have ho:=hn.offer
  have hp:=hn.press
  have hq:=hh.nd
  have l1:=hv.l1
  have l2:=hv.l2
  have l4:=hv.l4
  refine ⟨⟨by omega,by omega⟩,⟨by omega,by omega⟩,⟨by omega,by omega⟩,⟨by omega,by omega⟩,⟨by omega,by omega⟩,⟨by omega,fun e hx => elE_rng (hh.el e hx)⟩,⟨by omega,fun q hx => ?_⟩,⟨by omega,by omega⟩,⟨by omega,fun p hx => ?_⟩,?_,⟨hl,he⟩⟩
  · obtain ⟨_,k1,k2⟩:=hh.ev q hx
    exact ⟨by omega,fun i hi => by have:=k2 i hi; exact ⟨by omega,by omega⟩⟩
  · have k:=List.any_eq_false.1 ha.prm p hx
    unfold prmB at k
    have k1:memB s.2.1 p.2.1 = true:=by revert k; cases memB s.2.1 p.2.1 <;> simp
    have k2:wi p.2.2.1 0 2199023255552 = true:=by revert k; cases wi p.2.2.1 0 2199023255552 <;> simp
    have k1:=memB_iff.1 k1
    have k2:=wi_iff.1 k2
    have k3:=ord_rng ha.ord p hx
    exact ⟨⟨by omega,by omega⟩,⟨by omega,by omega⟩,⟨by omega,by omega⟩⟩
  · cases c:keepS s s.1 with
    | true => rw [hb1 c]; decide
    | false =>
      have:=wi_iff.1 (hb2 c)
      exact ⟨by omega,by omega⟩
end
end Go.MB
