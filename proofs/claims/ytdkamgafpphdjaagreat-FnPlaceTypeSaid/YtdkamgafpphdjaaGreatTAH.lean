/-
  Lemmas towards the law, 8: Text, Fits, Same, OrdX, WalkValid, Grow2.
-/
import Derived.Test.YtdkamgafpphdjaaGreatTAG
import Derived.Deep.RegionHeld3
import Derived.Deep.RegionWith
import Derived.Outline
import Derived.StillTailTactics
import Derived.Test.YtdkamgafpphdjaaGreatProg
namespace Go.Proofs.YtdkamgafpphdjaaGreat
set_option linter.unusedVariables false
def ofL(l:List UInt8):ByteArray:=⟨l.toArray⟩
theorem y14(a b:List UInt8):ofL a++ofL b=ofL (a++b):=by
 apply ByteArray.ext
 simp[ofL]
theorem j121(l:List UInt8):(ofL l).size=l.length:=by simp[ofL,ByteArray.size]
theorem q148(l:List UInt8):(ofL l).data.toList=l:=by simp[ofL]
def decL(n:Int):List UInt8:=if n<=9 then [UInt8.ofNat (48+n.toNat)] else [UInt8.ofNat (48+n.toNat / 10),UInt8.ofNat (48+n.toNat % 10)]
def opn(k:Int):List UInt8:=
 if k=3 then [40] else if k=4 then [91] else if k=5 then [40] else if k=6 then [78] else if k=7 then [48] else if k=8 then [43] else if k=9 then [60] else if k=10 then [123] else if k=11 then [33] else if k=12 then [64,60] else if k=13 then [40] else if k=14 then [124] else if k=15 then [94] else if k=16 then [95] else []
def sep(k:Int):List UInt8:=
 if k=3 then [62] else if k=4 then [93] else if k=5 then [32] else if k=13 then [42] else [44]
def cls(k:Int):List UInt8:=
 if k=3 then [41] else if k=5 then [41] else if k=9 then [62] else if k=10 then [125] else if k=12 then [62] else if k=13 then [41] else if k=14 then [124] else []
mutual
def fmtL:Tr->List UInt8
 | .mk k n ks=> if k=1 then 35::decL n else if k=2 then 42::decL n else opn k++fmtK (sep k) ks true++cls k
def fmtK:List UInt8->List Tr->Bool->List UInt8
 |_, [],_=> []
 |s,t::ts,f=>(if f=true then [] else s)++fmtL t++fmtK s ts false
end
theorem q121(n:Int):(decL n).length<=2:=by unfold decL;split <;> simp
theorem opn_len(k:Int):(opn k).length<=2:=by
 unfold opn;by_cases h3:k=3
 · rw[if_pos h3];decide
 rw[if_neg h3];by_cases h4:k=4
 · rw[if_pos h4];decide
 rw[if_neg h4];by_cases h5:k=5
 · rw[if_pos h5];decide
 rw[if_neg h5];by_cases h6:k=6
 · rw[if_pos h6];decide
 rw[if_neg h6];by_cases h7:k=7
 · rw[if_pos h7];decide
 rw[if_neg h7];by_cases h8:k=8
 · rw[if_pos h8];decide
 rw[if_neg h8];by_cases h9:k=9
 · rw[if_pos h9];decide
 rw[if_neg h9];by_cases h10:k=10
 · rw[if_pos h10];decide
 rw[if_neg h10];by_cases h11:k=11
 · rw[if_pos h11];decide
 rw[if_neg h11];by_cases h12:k=12
 · rw[if_pos h12];decide
 rw[if_neg h12];by_cases h13:k=13
 · rw[if_pos h13];decide
 rw[if_neg h13];by_cases h14:k=14
 · rw[if_pos h14];decide
 rw[if_neg h14];by_cases h15:k=15
 · rw[if_pos h15];decide
 rw[if_neg h15];by_cases h16:k=16
 · rw[if_pos h16];decide
 rw[if_neg h16]
 decide
theorem sep_len(k:Int):(sep k).length=1:=by
 unfold sep;by_cases h3:k=3
 · rw[if_pos h3];decide
 rw[if_neg h3];by_cases h4:k=4
 · rw[if_pos h4];decide
 rw[if_neg h4];by_cases h5:k=5
 · rw[if_pos h5];decide
 rw[if_neg h5];by_cases h13:k=13
 · rw[if_pos h13];decide
 rw[if_neg h13]
 decide
theorem cls_len(k:Int):(cls k).length<=1:=by
 unfold cls;by_cases h3:k=3
 · rw[if_pos h3];decide
 rw[if_neg h3];by_cases h5:k=5
 · rw[if_pos h5];decide
 rw[if_neg h5];by_cases h9:k=9
 · rw[if_pos h9];decide
 rw[if_neg h9];by_cases h10:k=10
 · rw[if_pos h10];decide
 rw[if_neg h10];by_cases h12:k=12
 · rw[if_pos h12];decide
 rw[if_neg h12];by_cases h13:k=13
 · rw[if_pos h13];decide
 rw[if_neg h13];by_cases h14:k=14
 · rw[if_pos h14];decide
 rw[if_neg h14]
 decide
mutual
theorem q28: ∀t:Tr,(fmtL t).length+1<=5*cnt t
 | .mk k n ks=> by
  have h1:=q121 n;have h2:=opn_len k;have h3:=cls_len k;have h4:=q68 (sep k) (by rw[sep_len k];omega) ks true;unfold fmtL;simp only[cnt]
  split
  · simp;omega
  · split
    · simp;omega
    · simp;omega
theorem q68(s:List UInt8)(hs:s.length<=1): ∀(ts:List Tr) (f:Bool),(fmtK s ts f).length<=5*cnts ts
 | [],_=> by simp[fmtK]
 |t::ts,f=> by
  have h1:=q28 t;have h2:=q68 s hs ts false;unfold fmtK;simp only[cnts];cases f <;> simp <;> omega
end
def fmtV(t:Tr):List UInt8:=if valid sigT t=true then fmtL t else []
def q70(c:UInt8):Bool:=decide (48<=c)&& decide (c<=57)
def numS(l:List UInt8)(a:Nat)(two:Bool):Option (Int×Nat):=
 match l[a]?with
 |none=> none
 |some c=> if q70 c=true then
  (if two=true then
   match l[a+1]?with
   |none=> some ((c.toNat:Int) - 48,a+1)
   |some d=> if q70 d=true then(if c=48 then none else some (((c.toNat:Int) - 48)*10+((d.toNat:Int) - 48),a+2)) else some ((c.toNat:Int) - 48,a+1)
  else some ((c.toNat:Int) - 48,a+1))
  else none
def ser(p:Nat->Option (Tr×Nat))(l:List UInt8)(last:UInt8):Nat->Nat->Option (List Tr×Nat)
 |0,a=> some ([],a)
 |m+1,a=> match p a with
  |none=> none
  |some (t,b)=> if l[b]? =some (if m=0 then last else 44) then(ser p l last m (b+1)).map (fun x=>(t::x.1,x.2)) else none
def one(k:Int)(x:Option (Tr×Nat)):Option (Tr×Nat):=x.map fun y=>(.mk k 0 [y.1],y.2)
def rndK(c:Option UInt8):Int:=if c=some 62 then 3 else if c=some 42 then 13 else if c=some 32 then 5 else 0
def rnd(p:Nat->Option (Tr×Nat))(l:List UInt8)(a:Nat):Option (Tr×Nat):=
 match p a with
 |none=> none
 |some (x,b)=> if rndK l[b]? =0 then none else
  match p (b+1) with
  |none=> none
  |some (y,c)=> if l[c]? =some 41 then some (.mk (rndK l[b]?) 0 [x,y],c+1) else none
def sqr(p:Nat->Option (Tr×Nat))(l:List UInt8)(a:Nat):Option (Tr×Nat):=
 match p a with
 |none=> none
 |some (x,b)=> if l[b]? =some 93 then(match p (b+1) with|none=> none|some (y,c)=> some (.mk 4 0 [x,y],c)) else none
def blkK(c:UInt8):Int:=if c=60 then 9 else if c=123 then 10 else if c=124 then 14 else if c=64 then 12 else 0
def blkE(c:UInt8):UInt8:=if c=123 then 125 else if c=124 then 124 else 62
def blk(p:Nat->Option (Tr×Nat))(l:List UInt8)(a:Nat)(c:UInt8):Option (Tr×Nat):=
 if blkK c=0 then none
 else if c=64 then(if l[a+1]? =some 60 then(ser p l 62 3 (a+2)).map (fun x=>(.mk 12 0 x.1,x.2)) else none)
 else(ser p l (blkE c) (if c=60 then 4 else 3) (a+1)).map (fun x=>(.mk (blkK c) 0 x.1,x.2))
def prs:Nat->List UInt8->Nat->Option (Tr×Nat)
 |0,_,_=> none
 |d+1,l,a=>
  match l[a]?with
  |none=> none
  |some c=>
   if c=35 then(numS l (a+1) true).map (fun x=>(.mk 1 x.1 [],x.2))
   else if c=42 then(numS l (a+1) false).map (fun x=>(.mk 2 x.1 [],x.2))
   else if c=78 then some (.mk 6 0 [],a+1)
   else if c=48 then some (.mk 7 0 [],a+1)
   else if c=43 then one 8 (prs d l (a+1))
   else if c=33 then one 11 (prs d l (a+1))
   else if c=94 then one 15 (prs d l (a+1))
   else if c=95 then one 16 (prs d l (a+1))
   else if c=40 then rnd (prs d l) l (a+1)
   else if c=91 then sqr (prs d l) l (a+1)
   else blk (prs d l) l a c
def prsV(l:List UInt8):Option Tr:=
 match prs 30 l 0 with
 |none=> none
 |some (t,b)=> if l≠ []/\b=l.length/\fmtV t=l then some t else none
theorem j166{l:List UInt8}{t:Tr}(h:prsV l=some t):valid sigT t=true/\fmtL t=l:=by
 unfold prsV at h
 split at h
 · cases h
 · rename_i t' b _
   split at h
   · rename_i hh
     cases h
     obtain⟨h1,h2,h3⟩:=hh;unfold fmtV at h3
     split at h3
     · rename_i hv
       exact⟨hv,h3⟩
     · exact absurd h3.symm h1
   · cases h
end Go.Proofs.YtdkamgafpphdjaaGreat
namespace Go.Proofs.YtdkamgafpphdjaaGreat
open Go.RowKit
set_option linter.unusedVariables false
def y36(ks:List Tr):Bool:=decide (ks.length<=8)&& !ks.any (fun t=> !valid sigT t)
theorem q42{ks:List Tr}(h:y36 ks=true):ks.length<=8/\ ∀t∈ks,valid sigT t=true:=by
 unfold y36 at h;rw[Bool.and_eq_true,decide_eq_true_eq] at h;refine⟨h.1,fun t ht=> ?_⟩;have h2:=h.2;simp only[Bool.not_eq_true',List.any_eq_false] at h2
 simpa using h2 t ht
end Go.Proofs.YtdkamgafpphdjaaGreat
namespace Go.Proofs.YtdkamgafpphdjaaGreat
open Go.RowKit
set_option linter.unusedVariables false
def j133(t:Tr):Prop:= ∀(w:World) (t':Tr) (v v':Value),Lies w t v->Lies w t' v'->
 Calls Tryz.prog 17 #[v,v'] w fun e w'=> e= .returned (.bool (eqTr t t'))/\Ext w w'
set_option maxHeartbeats 400000 in
theorem y174(ks ks':List Tr)(hk: ∀t∈ks,j133 t)(w:World)(A A':Option Addr)(cap cap':Nat)(h:j21 w A ks)(hl:ks.length<=cap)(hc:cap<=maxLen)(h':j21 w A' ks')(hl':ks'.length<=cap')(hc':cap'<=maxLen):
 Calls Tryz.prog 66 #[.slice A ks.length cap, .slice A' ks'.length cap', .func (.func 17) #[] #[]] w fun e w'=> e= .returned (.bool (eqTs ks ks'))/\Ext w w':=by
 unfold maxLen at hc hc';by_cases h0:ks.length=ks'.length
 · have hd:((ks.length:Int) !=(ks'.length:Int))=false:=by rw[h0];simp
   have H0:=hdq h0;clear h0;go_enter Tryz.func66,Tryz.ntmps66;go_wp2_with fail
   go_loopw [17] (fun i wr=> ∃j:Nat,j<=ks.length/\i= .int .i64 j/\eqTs ks ks'=eqTs (ks.drop j) (ks'.drop j)/\Ext w wr) (fun i _=> ks.length -(intOf i).toNat)
   case atStart=> exact⟨0,Nat.zero_le _,rfl,rfl,xr _⟩
   case round=>
    obtain⟨j,hj,rfl,hsz,hb⟩:=hrel;have HS:=hdq hsz;clear hsz;by_cases hlt:j < ks.length
    · have hlt':j < ks'.length:=by rw[<-H0.out];exact hlt
      obtain⟨b,o,k,n,B,c,kids,rfl,HK,c0,c1,c2,hkl,hkc,hK,hin,hmem⟩:=h.get hb hlt;obtain⟨b',o',k',n',B',c',kids',rfl,HK',c0',c1',c2',hkl',hkc',hK',hin',hmem'⟩:=h'.get hb hlt';have hlb:=World.block_lt_of_cell? _ _ c0';have hstep:eqTs (ks.drop j) (ks'.drop j)=(eqTr (.mk k n kids) (.mk k' n' kids')&& eqTs (ks.drop (j+1)) (ks'.drop (j+1))):=by
       rw[List.drop_eq_getElem_cons hlt,List.drop_eq_getElem_cons hlt',HK.out,HK'.out]
       conv=> lhs;unfold eqTs
      have HST:=hdq hstep;clear hstep;go_wp2_with fail;refine(hk _ hmem _ (.mk k' n' kids') _ _ (hin.ext (((xr wr).alloc _).alloc _)) (hin'.ext (((xr wr).alloc _).alloc _))).mono ?_;rintro e w1 ⟨rfl,hb1⟩;have hb2:=hb.trans hb1.pre.pre;generalize eqTr (.mk k n kids) (.mk k' n' kids')=q at HST;cases q with
      |false=>
       go_wp2_with fail;go_ret;exact⟨by rw[HS.out,HST.out];rfl,hb2⟩
      |true=>
       go_wp2_with fail
       go_roundw
       case rel=> exact⟨j+1,by omega,by go_num,by rw[HS.out,HST.out];rfl,hb2⟩
       case measure=> simp[intOf];omega
    · go_wp2_with fail
      go_ret;exact⟨by rw[HS.out,List.drop_of_length_le (by omega),List.drop_of_length_le (by rw[<-H0.out];omega)];rfl,hb⟩
 · have hd:((ks.length:Int) !=(ks'.length:Int))=true:=by rw[bne_iff_ne];omega
   have e:eqTs ks ks'=false:=by
    rw[Bool.eq_false_iff];intro he;exact h0 (y153 he)
   have E:=hdq e;clear e;go_enter Tryz.func66,Tryz.ntmps66;go_wp2_with fail;go_ret;exact⟨by rw[E.out];rfl,xr _⟩
theorem j59: ∀t:Tr,j133 t:=Tr.ind fun k n ks hk=> by
 intro w t' v v' h h';obtain⟨A,cap,rfl,hl,hc,hK⟩:=Lies.mk_iff.1 h;obtain⟨k',n',ks'⟩:=t';obtain⟨A',cap',rfl,hl',hc',hK'⟩:=Lies.mk_iff.1 h';clear h h';have HW:=fun W (hW:Ext w W)=> y174 ks ks' hk W A A' cap cap' (hK.ext hW) hl hc (hK'.ext hW) hl' hc'
 have HS:=hdq HW;clear HW;by_cases h1:k=k'
 · by_cases h2:n=n'
   · have e:eqTr (.mk k n ks) (.mk k' n' ks')=eqTs ks ks':=by simp[eqTr,h1,h2]
     have E:=hdq e;have d1:(k==k')=true:=by simp[h1]
     have d2:(n==n')=true:=by simp[h2]
     clear e h1 h2;go_enter Tryz.func17,Tryz.ntmps17;go_wp2_with fail;refine(HS.out _ (((xr w).alloc _).alloc _)).mono ?_;rintro e w1 ⟨rfl,hE⟩;go_wp2_with fail;go_ret;exact⟨by rw[E.out];rfl,hE.pre.pre⟩
   · have e:eqTr (.mk k n ks) (.mk k' n' ks')=false:=by simp[eqTr,h2]
     have E:=hdq e;have d1:(k==k')=true:=by simp[h1]
     have d2:(n==n')=false:=by simpa using h2
     clear e h1 h2;go_enter Tryz.func17,Tryz.ntmps17;go_wp2_with fail;go_ret;exact⟨by rw[E.out];rfl,((xr w).alloc _).alloc _⟩
 · have e:eqTr (.mk k n ks) (.mk k' n' ks')=false:=by simp[eqTr,h1]
   have E:=hdq e;have d1:(k==k')=false:=by simpa using h1
   clear e h1;go_enter Tryz.func17,Tryz.ntmps17;go_wp2_with fail;go_ret;exact⟨by rw[E.out];rfl,((xr w).alloc _).alloc _⟩
end Go.Proofs.YtdkamgafpphdjaaGreat
namespace Go.Proofs.YtdkamgafpphdjaaGreat.OrdX
open Go Go.Proofs.YtdkamgafpphdjaaGreat.Ord Go.Proofs.YtdkamgafpphdjaaGreat.OrdG
set_option linter.unusedVariables false
def okX(ops:Array Oper)(l:Array Bool)(m N x:Nat):Bool:=
 ((List.range m).all fun i=> isOn l i||match dstOf ops i with
  |some d=> decide (d < N)&&(List.range i).all fun j=> isOn l j||dstOf ops j !=some d
  |none=> false)&&
 (List.range (ops.size - m)).all (fun i=> isOn l (m+i) ||(List.range m).all fun j=> j==x||isOn l j||y98 ops ops.size (m+i) j)&&
 (List.range ops.size).all (fun i=>(j45 ops i).all fun k=> decide (k < i)&&(!isOn l i||isOn l k))&& decide (m<=ops.size)&& decide (l.size=ops.size)
def okD(ops:Array Oper)(l:Array Bool)(m N:Nat):Bool:=
 (List.range m).all fun i=> isOn l i||match dstOf ops i with
  |some d=> decide (d < N)&&(List.range i).all fun j=> isOn l j||dstOf ops j !=some d
  |none=> false
section
variable {Γ : Type} {P : Program} {ops : Array Oper} {Q : Exit → Act → World → Prop} {l0 : Array Bool} {m : Nat} {E : World × Γ → World × Γ → Prop} {G : Nat → Value → World × Γ → Prop} {a0 : Act} {w0 : World × Γ}
theorem q101{N:Nat}(h:okD ops l0 m N=true){i:Nat}(hi:i < m)(hl:isOn l0 i=false): ∃d,dstOf ops i=some d/\d < N/\ ∀j,j < i->isOn l0 j=false->dstOf ops j≠some d:=by
 unfold okD at h;simp only[List.all_eq_true,List.mem_range] at h;have:=h i hi;rw[hl,Bool.false_or] at this
 split at this
 · rename_i d hd
   simp only[Bool.and_eq_true,decide_eq_true_eq,List.all_eq_true,List.mem_range,bne_iff_ne,Bool.or_eq_true] at this;refine⟨d,hd,this.1,fun j hj hjl=>(this.2 j hj).resolve_left (by rw[hjl];decide)⟩
 · cases this
theorem j179{N:Nat}(h:okD ops l0 m N=true){i j:Nat}(hi:i < m)(hj:j < m)(li:isOn l0 i=false)(lj:isOn l0 j=false)(hne:i≠j){d:Tmp}(hd:dstOf ops i=some d):dstOf ops j≠some d:=by
 rcases Nat.lt_or_gt_of_ne hne with hlt|hlt
 · intro e
   obtain⟨d',h1,-,h2⟩:=q101 h hj lj;rw[e] at h1;simp only[Option.some.injEq] at h1;subst h1;exact h2 i hlt li hd
 · obtain⟨d',h1,-,h2⟩:=q101 h hi li
   rw[hd] at h1;simp only[Option.some.injEq] at h1;subst h1;exact h2 j hlt lj
theorem q52{N:Nat}(h:okD ops l0 m N=true){v:Nat->Value}{s:Nat->Bool}(a:Act)(hsl: ∀j,s j=true->isOn l0 j=false){i:Nat}(hs:s i=false)(hi0:isOn l0 i=false)(u:Value): ∀{n:Nat},i < n->n<=m->
 putN ops (fun j=> if j=i then u else v j) (fun j=> if j=i then true else s j) a n=(putN ops v s a n).put (dstOf ops i) u
 |0,hi,_=> by omega
 |n+1,hi,hn=> by
  by_cases e:n=i
  · subst e
    have e1:(if n=n then true else s n)=true:=if_pos rfl;have e2: ¬s n=true:=by rw[hs];decide
    have e3:(if n=n then u else v n)=u:=if_pos rfl;unfold putN;rw[if_pos e1,if_neg e2,e3];rw[y27 a (v:=fun j=> if j=n then u else v j) (s:=fun j=> if j=n then true else s j) (v':=v) (s':=s) (fun j hj=>⟨by rw[if_neg (by omega)],fun _=> by rw[if_neg (by omega)]⟩)]
  · have ih:=q52 h (v:=v) a hsl hs hi0 u (n:=n) (by omega) (by omega)
    unfold putN;rw[if_neg e,if_neg e,ih]
    split
    · rename_i hsn
      rw[Act.put_comm];intro d hd;exact j179 h (by omega) (by omega) hi0 (hsl n hsn) (Ne.symm e) hd
    · rfl
theorem y54{N:Nat}(h:okD ops l0 m N=true)(v:Nat->Value)(s:Nat->Bool)(hsl: ∀j,s j=true->isOn l0 j=false)(a:Act)(hN:a.tmps.size=N){k:Nat}{d:Tmp}(hd:dstOf ops k=some d)(hk:s k=true): ∀{n:Nat},k < n->n<=m->(putN ops v s a n).eval (.tmp d)=v k
 |0,hi,_=> by omega
 |n+1,hi,hn=> by
  by_cases e:n=k
  · subst e
    unfold putN;rw[if_pos hk,hd,q85,if_pos rfl,if_pos];rw[j77,hN];obtain⟨d',h1,h2,-⟩:=q101 h (i:=n) (by omega) (hsl _ hk);rw[hd] at h1;simp only[Option.some.injEq] at h1;subst h1;exact h2
  · have ih:=y54 h v s hsl a hN hd hk (n:=n) (by omega) (by omega)
    unfold putN
    split
    · rename_i hsn
      cases hd':dstOf ops n with
      |none=> exact ih
      |some d'=>
       rw[q85,if_neg,ih];intro e';subst e';exact j179 h (by omega) (by omega) (hsl _ hk) (hsl _ hsn) (Ne.symm e) hd hd'
    · exact ih
theorem wpAnyH_orderX{S:World->Prop}{N fuel fT x:Nat}{lT lX:Array Bool}{ox:Oper}(hok1:okX ops l0 m N x=true)(hN:a0.tmps.size=N)(hf:fuel=opnO l0 ops.size)(hlT:doneO l0 m=lT)(hfT:opnO lT ops.size=fT)
 (hox:ops[x]? =some ox) (hxm:x < m) (hxl:isOn l0 x=false) (hlX:lT.setIfInBounds x false=lX) (hns:Region.noSelect ops=true) (hfr:Region.free .any ops lX x=true) (hrd:(Region.ready .any ops lX).contains x=true)
 (hQ: ∀v c a w,Q (.panic c) (a.put ox.dst v) w->Q (.panic c) a w)
 (hX: ∀a w z,E w0 (w,z)->(∀t,isDst ops l0 m t=false->a.eval (.tmp t)=a0.eval (.tmp t))->(∀j d,depO ops l0 x j d=true->G j (a.eval (.tmp d)) (w,z))-> ∃u,YieldsIf P ops S ox u a/\G x u (w,z))
 (hE0:E w0 w0) (hE: ∀u v w,E u v->E v w->E u w) (hG: ∀i v w w',G i v w->E w w'->G i v w') (hS: ∀w z,E w0 (w,z)->S w)
 (steps:StepsO P ops Q l0 m E G a0 w0 0 (ops.toList.take m))
 (fin: ∀(v:Nat->Value) w z,E w0 (w,z)->(∀j,j < m->isOn l0 j=false->G j (v j) (w,z))->wpAnyH P .any ops Q S fT lT (putN ops v (fun j=> !isOn l0 j) a0 m) w):
 wpAnyH P .any ops Q S fuel l0 a0 w0.1:=by
 subst hlX;subst hlT;subst hfT;have hok2:=hok1;unfold okX at hok2;simp only[Bool.and_eq_true,decide_eq_true_eq,List.all_eq_true,List.mem_range,Bool.or_eq_true,Bool.not_eq_true'] at hok2;obtain⟨⟨⟨⟨-,hupb⟩,hlowb⟩,hm⟩,hlsz⟩:=hok2;have hok:okD ops l0 m N=true:=by
  unfold okX at hok1;simp only[Bool.and_eq_true] at hok1;exact hok1.1.1.1.1
 have hlow: ∀i,i < ops.size-> ∀k∈j45 ops i,k < i:=fun i hi k hk=>(hlowb i hi k hk).1
 have hdn0: ∀i,isOn l0 i=true-> ∀k∈j45 ops i,isOn l0 k=true:=fun i hl k hk=> by
  by_cases hi:i < ops.size
  · exact(hlowb i hi k hk).2.resolve_left (by rw[hl];decide)
  · unfold j45 at hk
    rw[show ops[i]? =none from Array.getElem?_eq_none (by omega)] at hk;simp at hk
 have hup: ∀i,m<=i->i < ops.size->isOn l0 i=false-> ∀j,j < m->j≠x->isOn l0 j=false->y98 ops ops.size i j=true:=fun i h1 h2 hi j hj hjx hl=> by
  have:=hupb (i - m) (by omega);rw[show m+(i - m)=i by omega] at this;have:=this.resolve_left (by rw[hi];decide) j hj;exact this.resolve_left (fun h=> h.elim (fun h=> hjx (by simpa using h)) (fun h=> by rw[hl] at h;cases h))
 have hsl: ∀listed:Array Bool,∀j,(isOn listed j && !isOn l0 j)=true->isOn l0 j=false:=fun listed j h=> by
  simp only[Bool.and_eq_true,Bool.not_eq_true'] at h;exact h.2
 have main: ∀(fuel:Nat) (listed:Array Bool) (a:Act) (w:World) (z:Γ) (v:Nat->Value),listed.size=ops.size->(∀i,m<=i->isOn listed i=isOn l0 i)->(∀i,isOn l0 i=true->isOn listed i=true)->
  (∀i,isOn listed i=true-> ∀k∈j45 ops i,isOn listed k=true)->a=putN ops v (fun j=> isOn listed j && !isOn l0 j) a0 m->(∀j,j < m->isOn listed j=true->isOn l0 j=false->G j (v j) (w,z))->E w0 (w,z)->
  fuel=opnO listed ops.size->wpAnyH P .any ops Q S fuel listed a w:=by
  intro fuel;have done: ∀(fuel:Nat) (listed:Array Bool) (a:Act) (w:World) (z:Γ) (v:Nat->Value),listed.size=ops.size->(∀i,m<=i->isOn listed i=isOn l0 i)->a=putN ops v (fun j=> isOn listed j && !isOn l0 j) a0 m->(∀j,j < m->isOn listed j=true->isOn l0 j=false->G j (v j) (w,z))->E w0 (w,z)->
   fuel=opnO listed ops.size->(∀j,j < m->isOn listed j=true)->wpAnyH P .any ops Q S fuel listed a w:=by
   intro fuel listed a w z v hsz h1 ha hg he hf hall;have hl:listed=doneO l0 m:=by
    apply Array.ext
    · simp[doneO,hsz,hlsz]
    · intro i hi1 hi2
      have e1:isOn listed i=listed[i]:=by simp[isOn,Array.getD_eq_getD_getElem?,hi1]
      have e2:(doneO l0 m)[i]=(decide (i < m) ||isOn l0 i):=by simp[doneO]
      rw[<-e1,e2];by_cases hi:i < m
      · rw[hall i hi];simp[hi]
      · rw[h1 i (by omega)];simp[hi]
   subst hl;subst ha;subst hf;rw[y27 (v':=v) (s':=fun j=> !isOn l0 j) a0 (fun j hj=>⟨by rw[hall j hj,Bool.true_and],fun _=> rfl⟩)];exact fin v w z he (fun j hj hl=> hg j hj (hall j hj) hl)
  induction fuel with
  |zero=>
   intro listed a w z v hsz h1 hmo h2 ha hg he hf;refine done 0 listed a w z v hsz h1 ha hg he hf fun j hj=> ?_
   have: ∀n,opnO listed n=0-> ∀j,j < n->isOn listed j=true:=by
    intro n
    induction n with
    |zero=> intro _ j hj;omega
    |succ n ih=>
     intro h j hj;unfold opnO at h;by_cases e:j=n
     · subst e
       split at h
       · assumption
       · omega
     · exact ih (by omega) j (by omega)
   exact this ops.size hf.symm j (by omega)
  |succ fuel ih=>
   intro listed a w z v hsz h1 hmo h2 ha hg he hf;by_cases hall: ∀j,j < m->isOn listed j=true
   · exact done _ listed a w z v hsz h1 ha hg he hf hall
   by_cases hallx: ∀j,j < m->j≠x->isOn listed j=true
   · have hxo:isOn listed x=false:=by
      cases hp:isOn listed x with
      |false=> rfl
      |true=> exact absurd (fun j hj=> if e:j=x then e▸hp else hallx j hj e) hall
     have hl:listed=(doneO l0 m).setIfInBounds x false:=by
      apply Array.ext
      · simp[doneO,hsz,hlsz]
      · intro i hi1 hi2
        have e1:isOn listed i=listed[i]:=by simp[isOn,Array.getD_eq_getD_getElem?,hi1]
        have hi3:i <(doneO l0 m).size:=by simpa using hi2
        have e2:(doneO l0 m)[i]=(decide (i < m) ||isOn l0 i):=by simp[doneO]
        rw[<-e1];by_cases e:i=x
        · subst e
          rw[hxo];simp
        · rw[Array.getElem_setIfInBounds_ne hi3 (Ne.symm e),e2]
          by_cases hi:i < m
          · rw[hallx i hi e];simp[hi]
          · rw[h1 i (by omega)];simp[hi]
     have hset:listed.setIfInBounds x true=doneO l0 m:=by
      rw[hl]
      apply Array.ext
      · simp
      · intro i hi1 hi2
        have e2:(doneO l0 m)[i]=(decide (i < m) ||isOn l0 i):=by simp[doneO]
        by_cases e:i=x
        · subst e
          rw[e2];simp[hxm]
        · rw[Array.getElem_setIfInBounds_ne (by simpa using hi1) (Ne.symm e),Array.getElem_setIfInBounds_ne hi2 (Ne.symm e)]
     have hd:(dstOf ops x)=ox.dst:=by unfold dstOf;rw[hox];rfl
     have hsx:(isOn listed x && !isOn l0 x)=false:=by rw[hxo];rfl
     obtain⟨u,hy,hgx⟩:=hX a w z he (by
      intro t ht;rw[ha,q64];intro j hj hs e;unfold isDst at ht;rw[List.any_eq_false] at ht;refine ht j (List.mem_range.2 hj) ?_;rw[hsl listed j hs,e];simp) (by
      intro j d hjd;unfold depO at hjd;simp only[Bool.and_eq_true,beq_iff_eq,List.contains_iff_mem,Bool.not_eq_true'] at hjd;have hji:=hlow x (by omega) j hjd.1.1;have hjl:=hallx j (by omega) (by omega);rw[ha,y54 hok v _ (hsl listed) a0 hN hjd.1.2 (by rw[hjl,hjd.2];rfl) (by omega) (Nat.le_refl _)];exact hg j (by omega) hjl hjd.2)
     have hfu:fuel=opnO (doneO l0 m) ops.size:=by
      have:=j96 (l:=listed) (l':=listed.setIfInBounds x true) (i:=x) hxo (by
       unfold isOn;simp[Array.getD_eq_getD_getElem?,show x < listed.size by omega]) (fun j hj=> by
       unfold isOn;simp[Array.getD_eq_getD_getElem?,Array.getElem?_setIfInBounds_ne (Ne.symm hj)]) (n:=ops.size)
      rw[if_pos (by omega),hset] at this;omega
     refine wpAnyH_take (v:=u) hox hns (hl▸hfr) (hl▸hrd) (hQ u) hy (hS _ _ he) ?_;rw[hset,hfu,ha,<-hd,<-q52 hok (s:=fun j=> isOn listed j && !isOn l0 j) a0 (hsl listed) hsx hxl u hxm (Nat.le_refl _)];rw[y27 (v':=fun j=> if j=x then u else v j) (s':=fun j=> !isOn l0 j) a0 (fun j hj=>⟨by
      by_cases e:j=x
      · simp only[if_pos e];rw[e,hxl];rfl
      · simp only[if_neg e];rw[hallx j hj e,Bool.true_and],fun _=> rfl⟩)]
     refine fin _ w z he fun j hj hjl=> ?_
     by_cases e:j=x
     · simp only[if_pos e];rw[e];exact hgx
     · simp only[if_neg e];exact hg j hj (hallx j hj e) hjl
   · obtain⟨j1,hj11,hj12,hj13⟩:=q215 (p:=isOn listed) (n:=m) (by
      apply Classical.byContradiction
      intro h;exact hall fun j hj=> by
       cases hp:isOn listed j with
       |true=> rfl
       |false=> exact absurd ⟨j,hj,hp⟩ h)
     obtain⟨j0,hj0,hjx,hj1⟩: ∃j,j < m/\j≠x/\isOn listed j=false:=by
      apply Classical.byContradiction
      intro h;exact hallx fun j hj hjx=> by
       cases hp:isOn listed j with
       |true=> rfl
       |false=> exact absurd ⟨j,hj,hjx,hp⟩ h
     have gt: ∀i,i < ops.size->listed.getD i true=isOn listed i:=fun i hi=> by
      simp[isOn,Array.getD_eq_getD_getElem?,show i < listed.size by omega]
     refine⟨fun h0=> ?_,fun i hi=> ?_⟩
     · have hr:j1∈Region.ready .any ops listed:=j122 (by omega) (by rw[gt _ (by omega)];exact hj12) (fun k hk=> hj13 k (hlow j1 (by omega) k hk))
       rw[h0] at hr;cases hr
     · obtain⟨r1,⟨o,ho⟩,r3⟩:=y74 hi
       have hin:i < ops.size:=(Array.getElem?_eq_some_iff.1 ho).1;have hi0:isOn listed i=false:=by rw[<-gt i hin];exact r1
       have hil:isOn l0 i=false:=by
        cases hp:isOn l0 i with
        |false=> rfl
        |true=> rw[hmo i hp] at hi0;cases hi0
       have hj0l:isOn l0 j0=false:=by
        cases hp:isOn l0 j0 with
        |false=> rfl
        |true=> rw[hmo j0 hp] at hj1;cases hj1
       have him:i < m:=by
        apply Classical.byContradiction
        intro hge;have:=q47 (l:=isOn listed) h2 ops.size i j0 r3 (hup i (by omega) hin hil j0 hj0 hjx hj0l);rw[hj1] at this;cases this
       have hst:=StepsO.get (j:=i) steps (by rw[List.getElem?_take,if_pos him];simpa using ho);rw[Nat.zero_add] at hst;have hst:=hst.resolve_left (by rw[hil];decide);have hd:(dstOf ops i)=o.dst:=by unfold dstOf;rw[ho];rfl
       have hsi:(isOn listed i && !isOn l0 i)=false:=by rw[hi0];rfl
       refine wpOp_mono ?_ (hst a w z he ?_ ?_)
       · rintro a' w' ⟨u,z',rfl,he',hg'⟩
         have hset: ∀j,isOn (listed.setIfInBounds i true) j=if j=i then true else isOn listed j:=fun j=> by
          unfold isOn;by_cases e:j=i
          · subst e
            rw[if_pos rfl];simp[Array.getD_eq_getD_getElem?,show j < listed.size by omega]
          · rw[if_neg e]
            simp[Array.getD_eq_getD_getElem?,Array.getElem?_setIfInBounds_ne (Ne.symm e)]
         refine⟨hS _ _ (hE _ _ _ he he'),ih (listed.setIfInBounds i true) _ w' z' (fun j=> if j=i then u else v j) (by simpa using hsz) ?_ ?_ ?_ ?_ ?_ (hE _ _ _ he he') ?_⟩
         · intro j hj
           rw[hset,if_neg (by omega)];exact h1 j hj
         · intro j hj
           rw[hset]
           split
           · rfl
           · exact hmo j hj
         · intro j hj k hk
           rw[hset] at hj⊢;by_cases e:k=i
           · rw[if_pos e]
           · rw[if_neg e]
             by_cases e2:j=i
             · subst e2;exact r3 k hk
             · rw[if_neg e2] at hj
               exact h2 j hj k hk
         · rw[ha,<-hd,<-q52 hok (s:=fun j=> isOn listed j && !isOn l0 j) a0 (hsl listed) hsi hil u him (Nat.le_refl _)]
           refine y27 a0 (fun j hj=>⟨?_,fun _=> rfl⟩);simp only[hset];by_cases e:j=i
           · rw[if_pos e,if_pos e,e,hil];rfl
           · rw[if_neg e,if_neg e]
         · intro j hj hl hjl
           by_cases e:j=i
           · simp only[if_pos e];rw[e];exact hg'
           · simp only[if_neg e]
             rw[hset,if_neg e] at hl;exact hG _ _ _ _ (hg j hj hl hjl) he'
         · have:=j96 (l:=listed) (l':=listed.setIfInBounds i true) (i:=i) hi0 (by rw[hset,if_pos rfl]) (fun j hj=> by rw[hset,if_neg hj]) (n:=ops.size)
           rw[if_pos hin] at this;omega
       · intro t ht
         rw[ha,q64];intro j hj hs e;unfold isDst at ht;rw[List.any_eq_false] at ht;refine ht j (List.mem_range.2 hj) ?_;rw[hsl listed j hs,e];simp
       · intro j d hjd
         unfold depO at hjd;simp only[Bool.and_eq_true,beq_iff_eq,List.contains_iff_mem,Bool.not_eq_true'] at hjd;have hjl:=r3 j hjd.1.1;have hji:=hlow i hin j hjd.1.1;rw[ha,y54 hok v _ (hsl listed) a0 hN hjd.1.2 (by rw[hjl,hjd.2];rfl) (by omega) (Nat.le_refl _)];exact hg j (by omega) hjl hjd.2
 refine main fuel l0 a0 w0.1 w0.2 (fun _=> undef) hlsz (fun _ _=> rfl) (fun _ h=> h) hdn0 ?_ ?_ hE0 hf
 · have: ∀n,putN ops (fun _=> undef) (fun j=> isOn l0 j && !isOn l0 j) a0 n=a0:=fun n=> by
    induction n with
    |zero=> rfl
    |succ n ih=>
     unfold putN;rw[if_neg,ih];simp
   exact(this m).symm
 · intro j hj hl hl2
   rw[hl] at hl2;cases hl2
end
end Go.Proofs.YtdkamgafpphdjaaGreat.OrdX
namespace Go.Proofs.YtdkamgafpphdjaaGreat
open Go.RowKit
set_option linter.unusedVariables false
theorem q22(n lo hi:Int)(w:World):Calls Tryz.prog 67 #[.int .i64 n, .int .i64 lo, .int .i64 hi] w fun e w'=> e= .returned (.bool (inR n lo hi))/\w=w':=by
 by_cases h1:lo<=n
 · by_cases h2:n<=hi
   · have e:inR n lo hi=true:=y37.2 ⟨h1,h2⟩
     have E:=hdq e;have d1:decide (lo<=n)=true:=by simpa using h1
     have d2:decide (n<=hi)=true:=by simpa using h2
     clear e;go_enter Tryz.func67,Tryz.ntmps67;go_wp2_with fail;go_ret;exact⟨by rw[E.out];rfl,rfl⟩
   · have e:inR n lo hi=false:=q58.2 (.inr (by omega))
     have E:=hdq e;have d1:decide (lo<=n)=true:=by simpa using h1
     have d2:decide (n<=hi)=false:=by simpa using h2
     clear e;go_enter Tryz.func67,Tryz.ntmps67;go_wp2_with fail;go_ret;exact⟨by rw[E.out];rfl,rfl⟩
 · have e:inR n lo hi=false:=q58.2 (.inl (by omega))
   have E:=hdq e;have d1:decide (lo<=n)=false:=by simpa using h1
   clear e;go_enter Tryz.func67,Tryz.ntmps67;go_wp2_with fail;go_ret;exact⟨by rw[E.out];rfl,rfl⟩
theorem y84(k:Int)(w:World):Calls Tryz.prog 148 #[.int .i64 k] w fun e w'=> e= .returned (.int .i64 (opsT k))/\Ext w w':=by
 by_cases h1:inR k 1 16=true
 · have H1:=hdq h1
   have h2:=y37.1 h1;clear h1;have hcs: ∀j:Nat,j < 16->k=(j:Int)+1->Calls Tryz.prog 148 #[.int .i64 k] w fun e w'=> e= .returned (.int .i64 (opsT k))/\Ext w w':=by
    intro j hj hk;subst hk;have HX:=H1;go_enter Tryz.func148,Tryz.ntmps148;go_wp2_with (go_at_call 67;refine(q22 _ _ _ _).mono ?_;rw[HX.out];rintro e w1 ⟨rfl,rfl⟩)
    go_ret;refine⟨?_,(xr _).alloc _⟩;rcases(by omega:j=0\/j=1\/j=2\/j=3\/j=4\/j=5\/j=6\/j=7\/j=8\/j=9\/j=10\/j=11\/j=12\/j=13\/j=14\/j=15) with rfl|rfl|rfl|rfl|rfl|rfl|rfl|rfl|rfl|rfl|rfl|rfl|rfl|rfl|rfl|rfl <;> rfl
   exact hcs (k - 1).toNat (by omega) (by omega)
 · have h2:inR k 1 16=false:=by simpa using h1
   have H2:=hdq h2;have h3:=q58.1 h2;have e:opsT k= -1:=by
    unfold opsT
    repeat rw[if_neg (by omega)]
   have E:=hdq e;clear h1 h2 e;go_enter Tryz.func148,Tryz.ntmps148;go_wp2_with (go_at_call 67;refine(q22 _ _ _ _).mono ?_;rw[H2.out];rintro e w1 ⟨rfl,rfl⟩)
   go_ret;exact⟨by rw[E.out];rfl,xr _⟩
theorem y59(k:Int)(w:World):Calls Tryz.prog 149 #[.int .i64 k] w fun e w'=> e= .returned (.int .i64 (q31 k))/\w=w':=by
 by_cases h1:k=1
 · have e:q31 k=20:=by simp[q31,h1]
   have E:=hdq e;have d1:(k==1)=true:=by simpa using h1
   clear e h1;go_enter Tryz.func149,Tryz.ntmps149;go_wp2_with fail;go_ret;exact⟨by rw[E.out];rfl,rfl⟩
 · have d1:(k==1)=false:=by simpa using h1
   by_cases h2:k=2
   · have e:q31 k=3:=by simp[q31,h2]
     have E:=hdq e;have d2:(k==2)=true:=by simpa using h2
     clear e h1 h2;go_enter Tryz.func149,Tryz.ntmps149;go_wp2_with fail;go_ret;exact⟨by rw[E.out];rfl,rfl⟩
   · have e:q31 k=0:=by simp[q31,h1,h2]
     have E:=hdq e;have d2:(k==2)=false:=by simpa using h2
     clear e h1 h2;go_enter Tryz.func149,Tryz.ntmps149;go_wp2_with fail;go_ret;exact⟨by rw[E.out];rfl,rfl⟩
end Go.Proofs.YtdkamgafpphdjaaGreat
namespace Go.Proofs.YtdkamgafpphdjaaGreat
open Go.RowKit
set_option linter.unusedVariables false
theorem Only.below{L:List Nat}{a w w':World}{B:Nat}(h:Only L a w)(hb:Below B w w')(hB:a.heap.size<=B):Only L a w':=
 ⟨hb.os.trans h.os,hb.tape.trans h.tape,hb.output.trans h.output,Nat.le_trans h.size hb.size,fun i hi hn=>(hb.block i (by omega)).trans (h.block i hi hn)⟩
theorem Grow.step2{W wr w1 w w':World}{e:TypeId}{v v':Value}{ks:List Tr}{t:Tr}{v0 v1 v2:Value}{xs:List Value}{L:List Nat}
 (hL:OwnL wr e xs ks L) (hF:y57 W wr L) (hv: ∀g,v.ownBlock=some g-> ¬g∈L/\g < wr.heap.size/\W.heap.size<=g) (hx:xs.length=ks.length*3) (hW:W.heap.size<=wr.heap.size) (hs1:wr.heap.size<=w1.heap.size) (hA1: ∀b,W.heap.size<=b->b < wr.heap.size->w1.heap[b]? =wr.heap[b]?) (hM:Made wr w1 e t (.agg #[v0,v1,v2])) (hE2:Ext w1 w)
 (h2:w'.ownsRow W.heap.size e 3 v' (ks.length+1) (xs++ [v0,v1,v2])) (h3:w.grownBy w' v.ownBlock) (h4: ∀g,v'.ownBlock=some g->v.ownBlock=some g\/w.heap.size<=g):Grow W w' e v' (ks++ [t])/\Below W.heap.size w1 w'/\(∀b,wr.heap.size<=b->b < w1.heap.size->w'.heap[b]? =w1.heap[b]?):=by
 obtain⟨M,hM,hFM⟩:=hM;have s1:=hs1;have s2:=hE2.size;have keep: ∀b,b < w1.heap.size->(v.ownBlock≠some b)->w'.heap[b]? =w1.heap[b]? :=fun b hb hne=>(h3.block b (by omega) (fun h=> hne h.symm)).trans (hE2.heap b hb)
 refine⟨⟨_,L++M,by simpa using h2,OwnL.snoc (hM.mono fun b hb=> keep b (hFM.2 b hb).2 fun he=> ?_) [] hx (hL.mono fun b hb=>(keep b (by have:=(hF.2 b hb).2;omega) fun he=> ?_).trans (hA1 b (hF.2 b hb).1 (hF.2 b hb).2)), ?_,fun g hg hm=> ?_⟩, ?_⟩
 · have:=(hv b he).2.1
   have:=(hFM.2 b hb).1;omega
 · exact(hv b he).1 hb
 · have h5:=hF.append (d:=w1) hFM (Nat.le_refl _) hW hs1
   exact h5.mono (Nat.le_refl _) (by have:=h3.size;omega)
 · rcases h4 g hg with h|h
   · rcases List.mem_append.1 hm with hm|hm
     · exact(hv g h).1 hm
     · have:=(hv g h).2.1
       have:=(hFM.2 g hm).1;omega
   · rcases List.mem_append.1 hm with hm|hm
     · have:=(hF.2 g hm).2
       omega
     · have:=(hFM.2 g hm).2
       omega
 · refine⟨⟨h3.os.trans hE2.os,h3.tape.trans hE2.tape,h3.output.trans hE2.output,by have:=h3.size;omega,fun b hb=> ?_⟩,fun b h0 h1=> keep b h1 (fun he=> by have:=(hv b he).2.1;omega)⟩
   exact keep b (by omega) (fun he=> by have:=(hv b he).2.2;omega)
theorem y97{P:Program}(w:World){o:Oper}{a:Act}{K:Act->World->Prop}{Q:Exit->Act->World->Prop}(s x:Operand)(t:TypeId)
 (ho:o.op= .call {callee:= .builtin .append,args:=#[s,x],argTypes:=#[t,t]})
 (e:TypeId) (i:TypeInfo) (z:Value) (ht:P.underlying t=some (.slice e)) (hi:P.info? e=some i) (hz:i.zero=some z) (hsize:i.size=3) (hby:i.bytes=40) (hzs:z.cells.size=3)
 {W wr w1:World} {v:Value} {ks:List Tr} {tr:Tr} {v0 v1 v2:Value} {gx:Nat} (hs:a.eval s=v) (hG:Grow W wr e v ks) (hW:W.heap.size<=wr.heap.size) (hs1:wr.heap.size<=w1.heap.size) (hA1: ∀b,W.heap.size<=b->b < wr.heap.size->w1.heap[b]? =wr.heap[b]?) (hM:Made wr w1 e tr (.agg #[v0,v1,v2])) (hE2:Ext w1 w)
 (hx:a.eval x= .slice (some ⟨gx,0,none⟩) 1 1) (hgx:w.heap[gx]? =some (.cells #[v0,v1,v2] e (0,0))) (hn:ks.length < 1099511627776)
 (h: ∀v' w',Grow W w' e v' (ks++ [tr])->Below W.heap.size w1 w'->(∀b,wr.heap.size<=b->b < w1.heap.size->w'.heap[b]? =w1.heap[b]?)->K (a.put o.dst v') w'):o.wp P a w K Q:=by
 obtain⟨xs,L,h1,h2,h3,h4⟩:=hG;have s1:=hs1;have s2:=hE2.size;have hown:w.ownsRow W.heap.size e 3 v ks.length xs:=q26 h1 (fun g hg=>(hE2.heap g (by have:=(h1.lt g hg).2;omega)).trans (hA1 g (h1.lt g hg).1 (h1.lt g hg).2));obtain⟨v',w',hr,r1,r2,r3⟩:=q16 (P:=P) w W.heap.size t o.type e i z 3 40 ht hi hz hsize hby hzs (by decide) v ks.length xs hown ⟨gx,0,none⟩ 1 1 [v0,v1,v2] rfl (q50 hgx) (q92 hM) (by unfold maxLen;omega) (by omega) (by omega);obtain⟨g1,g2,g3⟩:=Grow.step2 h2 h3 (fun g hg=>⟨h4 g hg,(h1.lt g hg).2,(h1.lt g hg).1⟩) h1.1 hW hs1 hA1 hM hE2 r1 r2 r3;unfold Oper.wp execOp;simp only[ho,resolve,invoke,builtin,Sem.run_bind,Sem.run_pure,Result.andThen_ok,List.map_toArray,List.map_cons,List.map_nil,hs,hx,hr];exact h v' w' g1 g2 g3
theorem q49{P:Program}(w:World){ops:Array Oper}{o:Oper}{a:Act}{K:Act->World->Prop}{Q:Exit->Act->World->Prop}{E:Prop}(hgd:o.guard=none)(s x:Operand)(t:TypeId)
 (ho:o.op= .call {callee:= .builtin .append,args:=#[s,x],argTypes:=#[t,t]})
 (e:TypeId) (i:TypeInfo) (z:Value) (ht:P.underlying t=some (.slice e)) (hi:P.info? e=some i) (hz:i.zero=some z) (hsize:i.size=3) (hby:i.bytes=40) (hzs:z.cells.size=3)
 {W wr w1:World} {v:Value} {ks:List Tr} {tr:Tr} {v0 v1 v2:Value} {gx:Nat} (hs:a.eval s=v) (hG:Grow W wr e v ks) (hW:W.heap.size<=wr.heap.size) (hs1:wr.heap.size<=w1.heap.size) (hA1: ∀b,W.heap.size<=b->b < wr.heap.size->w1.heap[b]? =wr.heap[b]?) (hM:Made wr w1 e tr (.agg #[v0,v1,v2])) (hE2:Ext w1 w)
 (hx:a.eval x= .slice (some ⟨gx,0,none⟩) 1 1) (hgx:w.heap[gx]? =some (.cells #[v0,v1,v2] e (0,0))) (hn:ks.length < 1099511627776)
 (h: ∀v' w',Grow W w' e v' (ks++ [tr])->Below W.heap.size w1 w'->(∀b,wr.heap.size<=b->b < w1.heap.size->w'.heap[b]? =w1.heap[b]?)->K (a.put o.dst v') w'):
 if Region.wanted o (yielded ops a.tmps)=true then Oper.wp P o a w K Q else E:=by
 have hw:Region.wanted o (yielded ops a.tmps)=true:=by simp[Region.wanted,hgd]
 rw[if_pos hw];exact y97 w s x t ho e i z ht hi hz hsize hby hzs hs hG hW hs1 hA1 hM hE2 hx hgx hn h
end Go.Proofs.YtdkamgafpphdjaaGreat
