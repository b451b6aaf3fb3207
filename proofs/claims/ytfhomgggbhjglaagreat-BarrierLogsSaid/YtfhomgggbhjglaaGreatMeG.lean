/- Logs read: prefixes of strings, Read. -/
import Derived.Test.YtfhomgggbhjglaaGreatMeB
import Derived.Test.YtfhomgggbhjglaaGreatMeD
import Derived.Test.YtfhomgggbhjglaaGreatMeE
namespace Go.MB
open Go Go.Sx Go.Proofs
set_option linter.unusedVariables false
set_option linter.unusedSimpArgs false
noncomputable section
def pfxS(s p:ByteArray):Bool:=decide (p.size<=s.size)&&(s.extract 0 p.size).toList==p.toList
def cutP(s p:ByteArray):ByteArray×Bool:=if pfxS s p=true then (s.extract p.size s.size,true) else (s,false)
theorem T_hasP(s p:ByteArray):zU (P:=P) [] (zI []) Tryz.f145 (jM 0 [.val .str,.val .str] (s,p,())) =
 Tree.cond (decide ((↑(ByteArray.size s):Int)>=(↑(ByteArray.size p):Int))) (.need (0<=(↑(ByteArray.size p):Int)/\(↑(ByteArray.size p):Int)<=(↑(ByteArray.size s):Int)) (.leaf (.bool (ByteArray.toList (ByteArray.extract s 0 (Int.toNat (↑(ByteArray.size p):Int)))==ByteArray.toList p)))) (.leaf (.bool false)):=by kernel_rfl
abbrev AeG1:Type:=ByteArray×ByteArray×Unit
def c_hasP:PC P:=PC.of (α:=AeG1) 145 [.val .str,.val .str] (fun x=>x) (fun x=>x) (fun _=>rfl)
 (fun _=>none)
 (fun x=>.bool (pfxS x.1 x.2.1)) (by kernel_rfl) (by
  rintro⟨s,p,⟨⟩⟩ hp
  refine fn_of hm (by kernel_rfl) (by kernel_rfl) (T_hasP s p) trivial ?_
  try dsimp only at hp
  try dsimp only
  unfold pfxS
  refine⟨fun c1=>?_,fun c1=>?_⟩
  ·have c1:=dcT c1
   rw[decide_eq_true (show p.size<=s.size by omega),Bool.true_and]
   exact⟨⟨by omega,by omega⟩,rfl⟩
  ·have c1:=dcF c1
   rw[decide_eq_false (show ¬ p.size<=s.size by omega),Bool.false_and]
   exact rfl)
theorem T_cutA(s p:ByteArray):zU (P:=P) [c_hasP.gc] (zI []) Tryz.f116 (jM 0 [.val .str,.val .str] (s,p,())) =
 Tree.cond (!pfxS s p) (.leaf (.tup [SV.str s,.bool false])) (.need (0<=(↑(ByteArray.size p):Int)/\(↑(ByteArray.size p):Int)<=(↑(ByteArray.size s):Int)) (.leaf (.tup [SV.str (ByteArray.extract s (Int.toNat (↑(ByteArray.size p):Int)) (ByteArray.size s)),.bool true]))):=by kernel_rfl
def c_cutA:PC P:=PC.of (α:=AeG1) 116 [.val .str,.val .str] (fun x=>x) (fun x=>x) (fun _=>rfl)
 (fun _=>none)
 (fun x=>.tup [.str (cutP x.1 x.2.1).1,.bool (cutP x.1 x.2.1).2]) (by kernel_rfl) (by
  rintro⟨s,p,⟨⟩⟩ hp
  refine fn_of hm (by kernel_rfl) (by kernel_rfl) (T_cutA s p) trivial ?_
  try dsimp only at hp
  try dsimp only
  unfold cutP
  refine⟨fun c1=>?_,fun c1=>?_⟩
  ·rw[if_neg (by rw[notT c1];decide)]
   exact rfl
  ·have c1:=notF c1
   have c2:=c1
   unfold pfxS at c2
   have c2:=dcT (Bool.and_eq_true _ _ ▸ c2).1
   rw[if_pos c1]
   exact⟨⟨by omega,by omega⟩,rfl⟩)
theorem T_cutB(s p:ByteArray):zU (P:=P) [c_cutA.gc] (zI []) Tryz.f67 (jM 0 [.val .str,.val .str] (s,p,())) =
 Tree.leaf (.tup [SV.str (cutP s p).1,.bool (cutP s p).2]):=by kernel_rfl
def c_cutB:PC P:=PC.of (α:=AeG1) 67 [.val .str,.val .str] (fun x=>x) (fun x=>x) (fun _=>rfl)
 (fun _=>none)
 (fun x=>.tup [.str (cutP x.1 x.2.1).1,.bool (cutP x.1 x.2.1).2]) (by kernel_rfl) (by
  rintro⟨s,p,⟨⟩⟩ hp
  refine fn_of hm (by kernel_rfl) (by kernel_rfl) (T_cutB s p) trivial ?_
  try dsimp only at hp
  try dsimp only
  exact rfl)
def headR(r:Rd):Int×Int×Int×Int×Int×Rd:=((zA r).1,(zA (zA r).2).1,(zA (zA (zA r).2).2).1,(zA (zA (zA (zA r).2).2).2).1,(zA (zA (zA (zA (zA r).2).2).2).2).1,(zA (zA (zA (zA (zA r).2).2).2).2).2)
def readR(r:Rd):zX×List zP×Rd :=
 let h:=headR r
 let e:=rwS elR 10 h.2.2.2.2.2
 let v:=rwS (rowsR 10) 8 e.2
 let n:=zA v.2
 let p:=rwS pmR 16 n.2
 let b:=zA p.2
 let l:=rwS enR 200 b.2
 ((h.1,h.2.1,h.2.2.1,h.2.2.2.1,h.2.2.2.2.1,(e.1,v.1,n.1),p.1,b.1),l.1,l.2)
abbrev magic:ByteArray:={ data:=#[(109:UInt8),(112:UInt8),(108:UInt8),(49:UInt8)] }
def endS(x:zX×List zP×Rd):zX×List zP×Int:=if x.2.2.2=true\/x.2.2.1.toList≠ByteArray.empty.toList\/chkS x.1≠0 then (zSite,[],3) else (x.1,x.2.1,0)
def jB(s:ByteArray):zX×List zP×Int:=endS (readR ((cutP s magic).1,!(cutP s magic).2))
abbrev resR(x:zX×List zP×Int):SV:=.tup [.agg (siteA x.1),.sl tEntry x.2.1,.int .i64 x.2.2]
theorem leR_bad:LeS (SV.tup [.agg [.int .i64 0,.int .i64 0,.int .i64 0,.int .i64 0,.int .i64 0,.nils,.nils,.int .i64 0,.nils,.int .i64 0],.nils,.int .i64 3]) (resR (zSite,[],3)):=⟨⟨rfl,rfl,rfl,rfl,rfl,rfl,rfl,rfl,rfl,rfl,trivial⟩,rfl,rfl,trivial⟩
theorem leR_good(x:zX×List zP×Int):LeS (resR x) (resR x):=⟨⟨rfl,rfl,rfl,rfl,rfl,rfl,rfl,rfl,rfl,rfl,trivial⟩,rfl,rfl,trivial⟩
abbrev leafBad:Tree SV:=.leaf (SV.tup [.agg [.int .i64 0,.int .i64 0,.int .i64 0,.int .i64 0,.int .i64 0,.nils,.nils,.int .i64 0,.nils,.int .i64 0],.nils,.int .i64 3])
theorem read_tree(x:zX×List zP×Rd)(h1:x.1.2.2.2.2.2.1.1.length<=10)(h2:x.1.2.2.2.2.2.1.2.1.length<=8)(h3:∀q∈x.1.2.2.2.2.2.1.2.1,q.length<=10)(h4:x.1.2.2.2.2.2.2.1.length<=16):Tree.holds (fun y=>LeS y (resR (endS x))) (.cond x.2.2.2 leafBad (.cond (!(x.2.2.1.toList==ByteArray.empty.toList)) leafBad (.need (sOk x.1) (.cond (chkS x.1 != 0) leafBad (.leaf (resR (x.1,x.2.1,0))))))):=by
 unfold endS
 refine⟨fun c1=>?_,fun c1=>⟨fun c2=>?_,fun c2=>⟨?_,⟨fun c3=>?_,fun c3=>?_⟩⟩⟩⟩
 ·rw[if_pos (.inl c1)]
  exact leR_bad
 ·have k:x.2.2.1.toList≠ByteArray.empty.toList:=fun h=>by
   rw[beq_iff_eq.2 h] at c2
   cases c2
  rw[if_pos (.inr (.inl k))]
  exact leR_bad
 ·exact⟨⟨by omega,by omega,fun q hq=>by have:=h3 q hq;omega⟩,by omega⟩
 ·rw[if_pos (.inr (.inr (bneT c3)))]
  exact leR_bad
 ·have k:x.2.2.1.toList=ByteArray.empty.toList:=by
   cases hb:x.2.2.1.toList==ByteArray.empty.toList with
   |true=>exact beq_iff_eq.1 hb
   |false=>rw[hb] at c2;cases c2
  rw[if_neg (by
   rintro (h |h |h)
   ·rw[c1] at h;cases h
   ·exact h k
   ·exact h (bneF c3))]
  exact leR_good _
theorem rowsS_len{α:Type}(rd:Rd->α×Rd):∀(n:Nat)(r:Rd),(rowsS rd n r).1.length=n
 |0,r=>rfl
 |n+1,r=>by rw[rowsS,List.length_cons,rowsS_len rd n]
theorem rwS_len{α:Type}(rd:Rd->α×Rd) (m:Nat) (r:Rd):(rwS rd (m:Int) r).1.length<=m:=by
 unfold rwS
 split
 ·exact Nat.zero_le _
 ·rename_i c
  have:=wi_iff.1 (show wi (zA r).1 0 (m:Int)=true by revert c;cases wi (zA r).1 0 (m:Int)<;>simp)
  rw[rowsS_len]
  omega
theorem rowsS_all{α:Type}{rd:Rd->α×Rd}{p:α->Prop}(h:∀r,p (rd r).1):∀(n:Nat)(r:Rd),∀x∈(rowsS rd n r).1,p x
 |0,r,x,hx=>by cases hx
 |n+1,r,x,hx=>by
  rw[rowsS] at hx
  rcases List.mem_cons.1 hx with rfl |hx
  ·exact h r
  ·exact rowsS_all h n _ x hx
theorem rwS_all{α:Type}{rd:Rd->α×Rd}{p:α->Prop}(h:∀r,p (rd r).1) (m:Nat) (r:Rd):∀x∈(rwS rd (m:Int) r).1,p x:=by
 unfold rwS
 split
 ·intro x hx;cases hx
 ·exact rowsS_all h _ _
theorem readR_rng(r:Rd):(readR r).1.2.2.2.2.2.1.1.length<=10/\(readR r).1.2.2.2.2.2.1.2.1.length<=8/\(∀q∈(readR r).1.2.2.2.2.2.1.2.1,q.length<=10)/\(readR r).1.2.2.2.2.2.2.1.length<=16:=by
 unfold readR
 dsimp only
 exact⟨rwS_len elR 10 _,rwS_len (rowsR 10) 8 _,rwS_all (p:=fun q:List Int=>q.length<=10) (fun r=>rwS_len zA 10 r) 8 _,rwS_len pmR 16 _⟩
attribute [local irreducible] zA rwS cutP chkS
theorem T_Read(s:ByteArray):zU (P:=P) [c_cutB.gc,c_next.gc,c_number.gc,c_rwEl.gc,c_rwIs.gc,c_rwPm.gc,c_rwEn.gc,c_Check.gc] (zI []) Tryz.f29 (jM 0 [.val .str] (s,())) =
 Tree.need ((10:Int)<=1000) (.need ((8:Int)<=1000) (.need ((16:Int)<=1000) (.need ((200:Int)<=1000) (.cond (rwS enR 200 (zA (rwS pmR 16 (zA (rwS (rowsR 10) 8 (rwS elR 10 (zA (zA (zA (zA (zA ((cutP s { data:=#[(109:UInt8),(112:UInt8),(108:UInt8),(49:UInt8)] }).1,!(cutP s { data:=#[(109:UInt8),(112:UInt8),(108:UInt8),(49:UInt8)] }).2)).2).2).2).2).2).2).2).2).2).2).2.2 (.leaf (.tup [.agg [.int .i64 0,.int .i64 0,.int .i64 0,.int .i64 0,.int .i64 0,.nils,.nils,.int .i64 0,.nils,.int .i64 0],.nils,.int .i64 3])) (.cond (!ByteArray.toList (rwS enR 200 (zA (rwS pmR 16 (zA (rwS (rowsR 10) 8 (rwS elR 10 (zA (zA (zA (zA (zA ((cutP s { data:=#[(109:UInt8),(112:UInt8),(108:UInt8),(49:UInt8)] }).1,!(cutP s { data:=#[(109:UInt8),(112:UInt8),(108:UInt8),(49:UInt8)] }).2)).2).2).2).2).2).2).2).2).2).2).2.1==ByteArray.toList { data:=#[] }) (.leaf (.tup [.agg [.int .i64 0,.int .i64 0,.int .i64 0,.int .i64 0,.int .i64 0,.nils,.nils,.int .i64 0,.nils,.int .i64 0],.nils,.int .i64 3])) (.need (sOk ((zA ((cutP s { data:=#[(109:UInt8),(112:UInt8),(108:UInt8),(49:UInt8)] }).1,!(cutP s { data:=#[(109:UInt8),(112:UInt8),(108:UInt8),(49:UInt8)] }).2)).1,(zA (zA ((cutP s { data:=#[(109:UInt8),(112:UInt8),(108:UInt8),(49:UInt8)] }).1,!(cutP s { data:=#[(109:UInt8),(112:UInt8),(108:UInt8),(49:UInt8)] }).2)).2).1,(zA (zA (zA ((cutP s { data:=#[(109:UInt8),(112:UInt8),(108:UInt8),(49:UInt8)] }).1,!(cutP s { data:=#[(109:UInt8),(112:UInt8),(108:UInt8),(49:UInt8)] }).2)).2).2).1,(zA (zA (zA (zA ((cutP s { data:=#[(109:UInt8),(112:UInt8),(108:UInt8),(49:UInt8)] }).1,!(cutP s { data:=#[(109:UInt8),(112:UInt8),(108:UInt8),(49:UInt8)] }).2)).2).2).2).1,(zA (zA (zA (zA (zA ((cutP s { data:=#[(109:UInt8),(112:UInt8),(108:UInt8),(49:UInt8)] }).1,!(cutP s { data:=#[(109:UInt8),(112:UInt8),(108:UInt8),(49:UInt8)] }).2)).2).2).2).2).1,((rwS elR 10 (zA (zA (zA (zA (zA ((cutP s { data:=#[(109:UInt8),(112:UInt8),(108:UInt8),(49:UInt8)] }).1,!(cutP s { data:=#[(109:UInt8),(112:UInt8),(108:UInt8),(49:UInt8)] }).2)).2).2).2).2).2).1,(rwS (rowsR 10) 8 (rwS elR 10 (zA (zA (zA (zA (zA ((cutP s { data:=#[(109:UInt8),(112:UInt8),(108:UInt8),(49:UInt8)] }).1,!(cutP s { data:=#[(109:UInt8),(112:UInt8),(108:UInt8),(49:UInt8)] }).2)).2).2).2).2).2).2).1,(zA (rwS (rowsR 10) 8 (rwS elR 10 (zA (zA (zA (zA (zA ((cutP s { data:=#[(109:UInt8),(112:UInt8),(108:UInt8),(49:UInt8)] }).1,!(cutP s { data:=#[(109:UInt8),(112:UInt8),(108:UInt8),(49:UInt8)] }).2)).2).2).2).2).2).2).2).1),(rwS pmR 16 (zA (rwS (rowsR 10) 8 (rwS elR 10 (zA (zA (zA (zA (zA ((cutP s { data:=#[(109:UInt8),(112:UInt8),(108:UInt8),(49:UInt8)] }).1,!(cutP s { data:=#[(109:UInt8),(112:UInt8),(108:UInt8),(49:UInt8)] }).2)).2).2).2).2).2).2).2).2).1,(zA (rwS pmR 16 (zA (rwS (rowsR 10) 8 (rwS elR 10 (zA (zA (zA (zA (zA ((cutP s { data:=#[(109:UInt8),(112:UInt8),(108:UInt8),(49:UInt8)] }).1,!(cutP s { data:=#[(109:UInt8),(112:UInt8),(108:UInt8),(49:UInt8)] }).2)).2).2).2).2).2).2).2).2).2).1)) (.cond (chkS ((zA ((cutP s { data:=#[(109:UInt8),(112:UInt8),(108:UInt8),(49:UInt8)] }).1,!(cutP s { data:=#[(109:UInt8),(112:UInt8),(108:UInt8),(49:UInt8)] }).2)).1,(zA (zA ((cutP s { data:=#[(109:UInt8),(112:UInt8),(108:UInt8),(49:UInt8)] }).1,!(cutP s { data:=#[(109:UInt8),(112:UInt8),(108:UInt8),(49:UInt8)] }).2)).2).1,(zA (zA (zA ((cutP s { data:=#[(109:UInt8),(112:UInt8),(108:UInt8),(49:UInt8)] }).1,!(cutP s { data:=#[(109:UInt8),(112:UInt8),(108:UInt8),(49:UInt8)] }).2)).2).2).1,(zA (zA (zA (zA ((cutP s { data:=#[(109:UInt8),(112:UInt8),(108:UInt8),(49:UInt8)] }).1,!(cutP s { data:=#[(109:UInt8),(112:UInt8),(108:UInt8),(49:UInt8)] }).2)).2).2).2).1,(zA (zA (zA (zA (zA ((cutP s { data:=#[(109:UInt8),(112:UInt8),(108:UInt8),(49:UInt8)] }).1,!(cutP s { data:=#[(109:UInt8),(112:UInt8),(108:UInt8),(49:UInt8)] }).2)).2).2).2).2).1,((rwS elR 10 (zA (zA (zA (zA (zA ((cutP s { data:=#[(109:UInt8),(112:UInt8),(108:UInt8),(49:UInt8)] }).1,!(cutP s { data:=#[(109:UInt8),(112:UInt8),(108:UInt8),(49:UInt8)] }).2)).2).2).2).2).2).1,(rwS (rowsR 10) 8 (rwS elR 10 (zA (zA (zA (zA (zA ((cutP s { data:=#[(109:UInt8),(112:UInt8),(108:UInt8),(49:UInt8)] }).1,!(cutP s { data:=#[(109:UInt8),(112:UInt8),(108:UInt8),(49:UInt8)] }).2)).2).2).2).2).2).2).1,(zA (rwS (rowsR 10) 8 (rwS elR 10 (zA (zA (zA (zA (zA ((cutP s { data:=#[(109:UInt8),(112:UInt8),(108:UInt8),(49:UInt8)] }).1,!(cutP s { data:=#[(109:UInt8),(112:UInt8),(108:UInt8),(49:UInt8)] }).2)).2).2).2).2).2).2).2).1),(rwS pmR 16 (zA (rwS (rowsR 10) 8 (rwS elR 10 (zA (zA (zA (zA (zA ((cutP s { data:=#[(109:UInt8),(112:UInt8),(108:UInt8),(49:UInt8)] }).1,!(cutP s { data:=#[(109:UInt8),(112:UInt8),(108:UInt8),(49:UInt8)] }).2)).2).2).2).2).2).2).2).2).1,(zA (rwS pmR 16 (zA (rwS (rowsR 10) 8 (rwS elR 10 (zA (zA (zA (zA (zA ((cutP s { data:=#[(109:UInt8),(112:UInt8),(108:UInt8),(49:UInt8)] }).1,!(cutP s { data:=#[(109:UInt8),(112:UInt8),(108:UInt8),(49:UInt8)] }).2)).2).2).2).2).2).2).2).2).2).1) != 0) (.leaf (.tup [.agg [.int .i64 0,.int .i64 0,.int .i64 0,.int .i64 0,.int .i64 0,.nils,.nils,.int .i64 0,.nils,.int .i64 0],.nils,.int .i64 3])) (.leaf (.tup [.agg [.int .i64 (zA ((cutP s { data:=#[(109:UInt8),(112:UInt8),(108:UInt8),(49:UInt8)] }).1,!(cutP s { data:=#[(109:UInt8),(112:UInt8),(108:UInt8),(49:UInt8)] }).2)).1,.int .i64 (zA (zA ((cutP s { data:=#[(109:UInt8),(112:UInt8),(108:UInt8),(49:UInt8)] }).1,!(cutP s { data:=#[(109:UInt8),(112:UInt8),(108:UInt8),(49:UInt8)] }).2)).2).1,.int .i64 (zA (zA (zA ((cutP s { data:=#[(109:UInt8),(112:UInt8),(108:UInt8),(49:UInt8)] }).1,!(cutP s { data:=#[(109:UInt8),(112:UInt8),(108:UInt8),(49:UInt8)] }).2)).2).2).1,.int .i64 (zA (zA (zA (zA ((cutP s { data:=#[(109:UInt8),(112:UInt8),(108:UInt8),(49:UInt8)] }).1,!(cutP s { data:=#[(109:UInt8),(112:UInt8),(108:UInt8),(49:UInt8)] }).2)).2).2).2).1,.int .i64 (zA (zA (zA (zA (zA ((cutP s { data:=#[(109:UInt8),(112:UInt8),(108:UInt8),(49:UInt8)] }).1,!(cutP s { data:=#[(109:UInt8),(112:UInt8),(108:UInt8),(49:UInt8)] }).2)).2).2).2).2).1,.sl (Ty.pair tI (Ty.pair tI (Ty.pair tI tI))) (rwS elR 10 (zA (zA (zA (zA (zA ((cutP s { data:=#[(109:UInt8),(112:UInt8),(108:UInt8),(49:UInt8)] }).1,!(cutP s { data:=#[(109:UInt8),(112:UInt8),(108:UInt8),(49:UInt8)] }).2)).2).2).2).2).2).1,.sl (Ty.sl tI) (rwS (rowsR 10) 8 (rwS elR 10 (zA (zA (zA (zA (zA ((cutP s { data:=#[(109:UInt8),(112:UInt8),(108:UInt8),(49:UInt8)] }).1,!(cutP s { data:=#[(109:UInt8),(112:UInt8),(108:UInt8),(49:UInt8)] }).2)).2).2).2).2).2).2).1,.int .i64 (zA (rwS (rowsR 10) 8 (rwS elR 10 (zA (zA (zA (zA (zA ((cutP s { data:=#[(109:UInt8),(112:UInt8),(108:UInt8),(49:UInt8)] }).1,!(cutP s { data:=#[(109:UInt8),(112:UInt8),(108:UInt8),(49:UInt8)] }).2)).2).2).2).2).2).2).2).1,.sl (Ty.pair tI (Ty.pair tI (Ty.pair tI Ty.bool))) (rwS pmR 16 (zA (rwS (rowsR 10) 8 (rwS elR 10 (zA (zA (zA (zA (zA ((cutP s { data:=#[(109:UInt8),(112:UInt8),(108:UInt8),(49:UInt8)] }).1,!(cutP s { data:=#[(109:UInt8),(112:UInt8),(108:UInt8),(49:UInt8)] }).2)).2).2).2).2).2).2).2).2).1,.int .i64 (zA (rwS pmR 16 (zA (rwS (rowsR 10) 8 (rwS elR 10 (zA (zA (zA (zA (zA ((cutP s { data:=#[(109:UInt8),(112:UInt8),(108:UInt8),(49:UInt8)] }).1,!(cutP s { data:=#[(109:UInt8),(112:UInt8),(108:UInt8),(49:UInt8)] }).2)).2).2).2).2).2).2).2).2).2).1],.sl (Ty.pair tI (Ty.pair tI (Ty.pair tI (Ty.pair tI (Ty.pair tI tI))))) (rwS enR 200 (zA (rwS pmR 16 (zA (rwS (rowsR 10) 8 (rwS elR 10 (zA (zA (zA (zA (zA ((cutP s { data:=#[(109:UInt8),(112:UInt8),(108:UInt8),(49:UInt8)] }).1,!(cutP s { data:=#[(109:UInt8),(112:UInt8),(108:UInt8),(49:UInt8)] }).2)).2).2).2).2).2).2).2).2).2).2).1,.int .i64 0]))))))))):=by kernel_rfl
def c_Read:PC P:=PC.of (α:=ByteArray×Unit) 29 [.val .str] (fun x=>x) (fun x=>x) (fun _=>rfl)
 (fun _=>none)
 (fun x=>resR (jB x.1)) (by kernel_rfl) (by
  rintro⟨s,⟨⟩⟩ hp
  refine fn_le hm (by kernel_rfl) (by kernel_rfl) (T_Read s) trivial (by kernel_rfl) ?_
  try dsimp only at hp
  try dsimp only
  obtain⟨h1,h2,h3,h4⟩:=readR_rng ((cutP s magic).1,!(cutP s magic).2)
  have key:=read_tree _ h1 h2 h3 h4
  clear h1 h2 h3 h4
  show Tree.holds (fun y=>LeS y (resR (endS (readR ((cutP s magic).1,!(cutP s magic).2))))) _
  generalize endS (readR ((cutP s magic).1,!(cutP s magic).2))=out at *
  unfold readR headR at key
  dsimp only at key
  exact⟨by decide,by decide,by decide,by decide,key⟩)
def repS(s:ByteArray):zX×Int×Int:=if (jB s).2.2≠0 then (zSite,0,(jB s).2.2) else runS (jB s).1 (jB s).2.1
theorem readS_sOk(s:ByteArray)(h:(jB s).2.2=0):chkS (jB s).1=0:=by
 unfold jB at *
 generalize readR _=x at *
 unfold endS at *
 split at h
 ·cases h
 ·rename_i c
  rw[if_neg c]
  exact Decidable.not_not.1 fun k=>c (.inr (.inr k))
theorem T_Replay(s:ByteArray):zU (P:=P) [c_Read.gc,c_Run.gc] (zI []) Tryz.f31 (jM 0 [.val .str] (s,())) =
 Tree.cond ((jB s).2.2 != 0) (.leaf (.tup [.agg [.int .i64 0,.int .i64 0,.int .i64 0,.int .i64 0,.int .i64 0,.nils,.nils,.int .i64 0,.nils,.int .i64 0],.int .i64 0,.int .i64 (jB s).2.2])) (.need (sOk (jB s).1) (.leaf (.tup [.agg [.int .i64 (runS (jB s).1 (jB s).2.1).1.1,.int .i64 (runS (jB s).1 (jB s).2.1).1.2.1,.int .i64 (runS (jB s).1 (jB s).2.1).1.2.2.1,.int .i64 (runS (jB s).1 (jB s).2.1).1.2.2.2.1,.int .i64 (runS (jB s).1 (jB s).2.1).1.2.2.2.2.1,.sl (Ty.pair tI (Ty.pair tI (Ty.pair tI tI))) (runS (jB s).1 (jB s).2.1).1.2.2.2.2.2.1.1,.sl (Ty.sl tI) (runS (jB s).1 (jB s).2.1).1.2.2.2.2.2.1.2.1,.int .i64 (runS (jB s).1 (jB s).2.1).1.2.2.2.2.2.1.2.2,.sl (Ty.pair tI (Ty.pair tI (Ty.pair tI Ty.bool))) (runS (jB s).1 (jB s).2.1).1.2.2.2.2.2.2.1,.int .i64 (runS (jB s).1 (jB s).2.1).1.2.2.2.2.2.2.2],.int .i64 (runS (jB s).1 (jB s).2.1).2.1,.int .i64 (runS (jB s).1 (jB s).2.1).2.2]))):=by kernel_rfl
def c_Replay:PC P:=PC.of (α:=ByteArray×Unit) 31 [.val .str] (fun x=>x) (fun x=>x) (fun _=>rfl)
 (fun _=>none)
 (fun x=>resN (repS x.1)) (by kernel_rfl) (by
  rintro⟨s,⟨⟩⟩ hp
  refine fn_le hm (by kernel_rfl) (by kernel_rfl) (T_Replay s) trivial (by kernel_rfl) ?_
  try dsimp only at hp
  try dsimp only
  show Tree.holds (fun x=>LeS x (resN (repS s))) _
  unfold repS
  refine⟨fun c1=>?_,fun c1=>?_⟩
  ·rw[if_pos (bneT c1)]
   exact leN_bad _
  ·have c1:=bneF c1
   rw[if_neg (fun k=>k c1)]
   exact⟨(chkS_site (readS_sOk s c1)).sOk,leN_good _⟩)
end
end Go.MB
