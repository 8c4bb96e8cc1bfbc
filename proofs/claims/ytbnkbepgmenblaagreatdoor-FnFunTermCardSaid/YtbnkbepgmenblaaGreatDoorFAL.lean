/-
  Lemmas towards the law, 12: Sub, Parse, Ints2.
-/
import Derived.Test.YtbnkbepgmenblaaGreatDoorFAK
import Derived.Laws.Strings2
set_option linter.unusedVariables false
set_option maxHeartbeats 1000000
set_option maxRecDepth 100000
namespace Go.Proofs.YtbnkbepgmenblaaGreatDoor
open Go.RowKit
def y14:Tr:= .mk 0 0 []
mutual
def shfT(y:Int):Tr->Int->Tr
 | .mk k n ks,c=> .mk k (if k=1/\c<=n then n+y else n) (q20 y k ks 0 c)
def q20(y:Int):Int->List Tr->Nat->Int->List Tr
 |_, [],_,_=> []
 |k,t::ts,i,c=> shfT y t (c+und k i)::q20 y k ts (i+1) c
end
mutual
def sbsT(u:Tr):Tr->Int->Int->Tr
 | .mk k n ks,x,d=> if k=1/\n=x then shfT d u 0 else .mk k (if k=1/\x < n then n - 1 else n) (y21 u k ks 0 x d)
def y21(u:Tr):Int->List Tr->Nat->Int->Int->List Tr
 |_, [],_,_,_=> []
 |k,t::ts,i,x,d=> sbsT u t (x+und k i) (d+und k i)::y21 u k ts (i+1) x d
end
mutual
def chgT(g:Int->Int->Tr):Tr->Int->Tr
 | .mk k n ks,b=> if k=1 then g n b else .mk k n (j81 g k ks 0 b)
def j81(g:Int->Int->Tr):Int->List Tr->Nat->Int->List Tr
 |_, [],_,_=> []
 |k,t::ts,i,b=> chgT g t (b+und k i)::j81 g k ts (i+1) b
end
mutual
def allT(h:Int->Int->Bool):Tr->Int->Bool
 | .mk k n ks,b=> if k=1 then h n b else y33 h k ks 0 b
def y33(h:Int->Int->Bool):Int->List Tr->Nat->Int->Bool
 |_, [],_,_=> true
 |k,t::ts,i,b=> allT h t (b+und k i)&& y33 h k ts (i+1) b
end
theorem y97(y:Int): ∀(k:Int) (ts:List Tr) (i:Nat) (c:Int),(q20 y k ts i c).length=ts.length
 |_, [],_,_=> rfl
 |k,t::ts,i,c=> by simp[q20,y97 y k ts (i+1) c]
theorem q120(u:Tr): ∀(k:Int) (ts:List Tr) (i:Nat) (x d:Int),(y21 u k ts i x d).length=ts.length
 |_, [],_,_,_=> rfl
 |k,t::ts,i,x,d=> by simp[y21,q120 u k ts (i+1) x d]
mutual
theorem j149(y:Int): ∀(t:Tr) (c:Int),cnt (shfT y t c)=cnt t
 | .mk k n ks,c=> by
  unfold shfT;simp only[cnt,j124 y k ks 0 c]
theorem j124(y:Int): ∀(k:Int) (ts:List Tr) (i:Nat) (c:Int),cnts (q20 y k ts i c)=cnts ts
 |_, [],_,_=> rfl
 |k,t::ts,i,c=> by
  unfold q20;simp only[cnts,j149 y t _,j124 y k ts (i+1) c]
end
mutual
theorem q59{g:Sig}: ∀{t:Tr} {d e:Int},shape g t d=true->d<=e->shape g t e=true
 | .mk k n ks,d,e,h,hd=> by
  simp only[shape,Bool.and_eq_true,decide_eq_true_eq] at h⊢;exact⟨by omega,h.2.1,q91 h.2.2 (by omega)⟩
theorem q91{g:Sig}: ∀{ts:List Tr} {d e:Int},q21 g ts d=true->d<=e->q21 g ts e=true
 | [],_,_,_,_=> rfl
 |t::ts,d,e,h,hd=> by
  simp only[q21,Bool.and_eq_true] at h⊢;exact⟨q59 h.1 hd,q91 h.2 hd⟩
end
theorem q112{n:Int}{ks:List Tr}{d:Int}(h:shape sigT (.mk 1 n ks) d=true):ks= []/\0<=n/\n<=20:=by
 obtain⟨h0,h1,h2,-⟩:=j11 h;have h3:=j91 1;have:(0:Int)=(ks.length:Int):=h0;exact⟨List.eq_nil_of_length_eq_zero (by omega),h1,by omega⟩
def gsh(y c:Int)(n b:Int):Tr:= .mk 1 (if c<=n - b then n+y else n) []
def hsh(y c:Int)(n b:Int):Bool:=if c<=n - b then decide (c<=n+y - b)&& decide (n+y<=20) else true
mutual
theorem j141(y c:Int): ∀(t:Tr) (b d:Int),shape sigT t d=true->chgT (gsh y c) t b=shfT y t (c+b)
 | .mk k n ks,b,d,h=> by
  unfold chgT shfT;by_cases hk:k=1
  · subst hk
    obtain⟨rfl,-,-⟩:=q112 h;rw[if_pos rfl];unfold gsh;by_cases h2:c<=n - b
    · rw[if_pos h2,if_pos ⟨rfl,by omega⟩];rfl
    · rw[if_neg h2,if_neg (by omega)];rfl
  · rw[if_neg hk,if_neg (fun h=> hk h.1),y128 y c k ks 0 b (d - 1) (j11 h).2.2.2]
theorem y128(y c:Int): ∀(k:Int) (ts:List Tr) (i:Nat) (b d:Int),(∀t∈ts,shape sigT t d=true)->j81 (gsh y c) k ts i b=q20 y k ts i (c+b)
 |_, [],_,_,_,_=> rfl
 |k,t::ts,i,b,d,h=> by
  unfold j81 q20;rw[j141 y c t _ d (h t (by simp)),y128 y c k ts (i+1) b d (fun t ht=> h t (by simp[ht])),Int.add_assoc]
end
theorem q152{g:Sig}{k n:Int}{a b:Nat}(h:a=b):y79 g k n a=y79 g k n b:=by rw[h]
mutual
theorem j139(y c:Int)(hy:0<=y): ∀(t:Tr) (b d:Int),shape sigT t d=true->allT (hsh y c) t b=shape sigT (shfT y t (c+b)) d
 | .mk k n ks,b,d,h=> by
  have hh:=h;simp only[shape,Bool.and_eq_true] at hh;unfold allT shfT;by_cases hk:k=1
  · subst hk
    obtain⟨rfl,h0,h1⟩:=q112 h;have hd:=of_decide_eq_true hh.1;rw[if_pos rfl];have hs: ∀x:Int,0<=x->shape sigT (.mk 1 x []) d=decide (x<=20):=fun x hx=> by
     simp only[shape,q21,y79,List.length_nil,Bool.and_true];rw[decide_eq_true hd,decide_eq_true (show sigT.ops 1=((0:Nat):Int) from rfl),Bool.true_and,Bool.true_and]
     show inR x 0 20=_
     unfold inR;rw[decide_eq_true hx,Bool.true_and]
    unfold hsh;by_cases h2:c<=n - b
    · rw[if_pos h2,if_pos ⟨rfl,by omega⟩,show q20 y 1 [] 0 (c+b)= [] from rfl,hs _ (by omega),decide_eq_true (by omega),Bool.true_and]
    · rw[if_neg h2,if_neg (by omega),show q20 y 1 [] 0 (c+b)= [] from rfl,hs _ h0,decide_eq_true h1]
  · rw[if_neg hk,if_neg (fun h=> hk h.1),y123 y c hy k ks 0 b (d - 1) hh.2.2]
    simp only[shape];rw[hh.1,q152 (y97 y k ks 0 (c+b)),hh.2.1]
    rfl
theorem y123(y c:Int)(hy:0<=y): ∀(k:Int) (ts:List Tr) (i:Nat) (b d:Int),q21 sigT ts d=true->y33 (hsh y c) k ts i b=q21 sigT (q20 y k ts i (c+b)) d
 |_, [],_,_,_,_=> rfl
 |k,t::ts,i,b,d,h=> by
  simp only[q21,Bool.and_eq_true] at h;unfold y33 q20;simp only[q21];rw[j139 y c hy t _ d h.1,y123 y c hy k ts (i+1) b d h.2,Int.add_assoc]
end
theorem j172{y c:Int}(hy:0<=y){t:Tr}(h:valid sigT t=true):(allT (hsh y c) t 0 && valid sigT (chgT (gsh y c) t 0))=valid sigT (shfT y t c)/\chgT (gsh y c) t 0=shfT y t c:=by
 obtain⟨h1,h2⟩:=y11 h;have e1:=j141 y c t 0 30 h1;have e2:=j139 y c hy t 0 30 h1;rw[Int.add_zero] at e1 e2;refine⟨?_,e1⟩;rw[e1,e2];unfold valid;cases shape sigT (shfT y t c) 30 <;> simp
def gsb(u:Tr)(x:Int)(n b:Int):Tr:=if n - b=x then(if valid sigT (shfT b u 0)=true then shfT b u 0 else y14) else .mk 1 (if x < n - b then n - 1 else n) []
def hsb(u:Tr)(x:Int)(n b:Int):Bool:=if n - b=x then valid sigT (shfT b u 0) else true
mutual
theorem q147(u:Tr)(x:Int): ∀(t:Tr) (b d:Int),shape sigT t d=true->allT (hsb u x) t b=true->chgT (gsb u x) t b=sbsT u t (x+b) b
 | .mk k n ks,b,d,h,ho=> by
  unfold allT at ho;unfold chgT sbsT;by_cases hk:k=1
  · subst hk
    obtain⟨rfl,-,-⟩:=q112 h;rw[if_pos rfl] at ho⊢;unfold hsb at ho;unfold gsb;by_cases h2:n - b=x
    · rw[if_pos h2] at ho⊢
      rw[if_pos ho,if_pos (show(1:Int)=1/\n=x+b from⟨rfl,by omega⟩)]
    · rw[if_neg h2,if_neg (show¬((1:Int)=1/\n=x+b) from by omega)]
      by_cases h3:x < n - b
      · rw[if_pos h3,if_pos (show(1:Int)=1/\x+b < n from⟨rfl,by omega⟩)];rfl
      · rw[if_neg h3,if_neg (show¬((1:Int)=1/\x+b < n) from by omega)];rfl
  · rw[if_neg hk] at ho⊢
    rw[if_neg (fun h=> hk h.1),if_neg (fun h=> hk h.1),j127 u x k ks 0 b (d - 1) (j11 h).2.2.2 ho]
theorem j127(u:Tr)(x:Int): ∀(k:Int) (ts:List Tr) (i:Nat) (b d:Int),(∀t∈ts,shape sigT t d=true)->y33 (hsb u x) k ts i b=true->j81 (gsb u x) k ts i b=y21 u k ts i (x+b) b
 |_, [],_,_,_,_,_=> rfl
 |k,t::ts,i,b,d,h,ho=> by
  unfold y33 at ho;rw[Bool.and_eq_true] at ho;unfold j81 y21;rw[q147 u x t _ d (h t (by simp)) ho.1,j127 u x k ts (i+1) b d (fun t ht=> h t (by simp[ht])) ho.2,Int.add_assoc]
end
mutual
theorem j123(u:Tr)(x:Int)(hu:cnt u<=400): ∀(t:Tr) (b d:Int),shape sigT t d=true->allT (hsb u x) t b=false-> ∀e:Int,e<=30->shape sigT (sbsT u t (x+b) b) e=false
 | .mk k n ks,b,d,h,ho,e,he=> by
  unfold allT at ho;unfold sbsT;by_cases hk:k=1
  · subst hk
    rw[if_pos rfl] at ho;unfold hsb at ho;by_cases h2:n - b=x
    · rw[if_pos h2] at ho
      rw[if_pos (show(1:Int)=1/\n=x+b from⟨rfl,by omega⟩),Bool.eq_false_iff];intro hs;have h3:=q59 hs he;unfold valid at ho;rw[h3,j149,decide_eq_true hu] at ho;cases ho
    · rw[if_neg h2] at ho
      cases ho
  · rw[if_neg hk] at ho
    rw[if_neg (fun h=> hk h.1)];simp only[shape];rw[y105 u x hu k ks 0 b (d - 1) (j11 h).2.2.2 ho (e - 1) (by omega)];simp
theorem y105(u:Tr)(x:Int)(hu:cnt u<=400): ∀(k:Int) (ts:List Tr) (i:Nat) (b d:Int),(∀t∈ts,shape sigT t d=true)->y33 (hsb u x) k ts i b=false-> ∀e:Int,e<=30->q21 sigT (y21 u k ts i (x+b) b) e=false
 |_, [],_,_,_,_,ho,_,_=> by unfold y33 at ho;cases ho
 |k,t::ts,i,b,d,h,ho,e,he=> by
  unfold y33 at ho;unfold y21;simp only[q21];rw[Bool.and_eq_false_iff] at ho⊢;rw[Int.add_assoc];rcases ho with ho|ho
  · exact .inl (j123 u x hu t _ d (h t (by simp)) ho e he)
  · exact .inr (y105 u x hu k ts (i+1) b d (fun t ht=> h t (by simp[ht])) ho e he)
end
theorem j170{u:Tr}{x:Int}(hu:cnt u<=400){t:Tr}(h:valid sigT t=true):(allT (hsb u x) t 0 && valid sigT (chgT (gsb u x) t 0))=valid sigT (sbsT u t x 0)/\(allT (hsb u x) t 0=true->chgT (gsb u x) t 0=sbsT u t x 0):=by
 obtain⟨h1,h2⟩:=y11 h;have e1:=q147 u x t 0 30 h1;have e2:=j123 u x hu t 0 30 h1;rw[Int.add_zero] at e1 e2;refine⟨?_,e1⟩;cases ha:allT (hsb u x) t 0 with
 |true=> rw[e1 ha,Bool.true_and]
 |false=>
  unfold valid;rw[e2 ha 30 (Int.le_refl _)]
  rfl
theorem j89{c:UInt8}(h:q29 c=true):48<=c.toNat/\c.toNat<=57:=by
 unfold q29 at h;simp[UInt8.le_iff_toNat_le] at h
 exact h
theorem j167{c:UInt8}(h:q29 c=false):c.toNat < 48\/57 < c.toNat:=by
 unfold q29 at h;simp[UInt8.le_iff_toNat_le] at h
 omega
theorem num0(w:World):Calls Tryz.prog 87 #[.string (ofL [])] w fun e w'=> e= .returned (.tuple #[.int .i64 0,.bool false])/\w=w':=by
 have hs:ofL []=({data:=#[]}:ByteArray):=rfl;rw[hs];clear hs;go_enter Tryz.func87,Tryz.ntmps87;go_wp2_with fail;go_ret2;exact⟨rfl,rfl⟩
theorem num1(w:World)(c:UInt8)(hd:q29 c=true):Calls Tryz.prog 87 #[.string (ofL [c])] w fun e w'=> e= .returned (.tuple #[.int .i64 ((c.toNat:Int) - 48),.bool true])/\w=w':=by
 have hs:ofL [c]=({data:=#[c]}:ByteArray):=rfl;obtain⟨h1,h2⟩:=j89 hd;have h0: ∀h,({data:=#[c]}:ByteArray)[0]'h=c:=fun _=> rfl
 obtain⟨m,hm⟩: ∃m,c.toNat=m:=⟨_,rfl⟩;rw[hs];rw[hm] at h1 h2⊢;have t1:((m:Int)==45)=false:=by rw[beq_eq_false_iff_ne];omega
 have t2:decide ((m:Int) < 48)=false:=decide_eq_false (by omega);have t3:decide ((57:Int) <(m:Int))=false:=decide_eq_false (by omega);clear hs hd;obtain⟨b4,t4⟩: ∃b4,((m:Int)==48)=b4:=⟨_,rfl⟩;cases b4
 all_goals
  go_enter Tryz.func87,Tryz.ntmps87;go_wp2_with fail;refine wp_loop_rounds 2 ?_;rw[rounds_succ];go_wp2_with fail;rw[rounds_succ];go_wp2_with fail;go_ret2;exact⟨by simp,rfl⟩
theorem num2(w:World)(c d:UInt8)(hd:q29 c=true)(hd2:q29 d=true)(fj:c≠48):Calls Tryz.prog 87 #[.string (ofL [c,d])] w fun e w'=> e= .returned (.tuple #[.int .i64 (((c.toNat:Int) - 48)*10+((d.toNat:Int) - 48)),.bool true])/\w=w':=by
 have hs:ofL [c,d]=({data:=#[c,d]}:ByteArray):=rfl;obtain⟨h1,h2⟩:=j89 hd;obtain⟨g1,g2⟩:=j89 hd2;have h0: ∀h,({data:=#[c,d]}:ByteArray)[0]'h=c:=fun _=> rfl
 have Mc: ∀h,({data:=#[c,d]}:ByteArray)[1]'h=d:=fun _=> rfl
 have hne:c.toNat≠48:=fun h=> fj (UInt8.toNat_inj.1 h)
 obtain⟨m,hm⟩: ∃m,c.toNat=m:=⟨_,rfl⟩;obtain⟨p,hp⟩: ∃p,d.toNat=p:=⟨_,rfl⟩;rw[hs];rw[hm] at h1 h2 hne⊢;rw[hp] at g1 g2⊢;have t1:((m:Int)==45)=false:=by rw[beq_eq_false_iff_ne];omega
 have t2:decide ((m:Int) < 48)=false:=decide_eq_false (by omega);have t3:decide ((57:Int) <(m:Int))=false:=decide_eq_false (by omega);have t4:((m:Int)==48)=false:=by rw[beq_eq_false_iff_ne];omega
 have t5:decide ((p:Int) < 48)=false:=decide_eq_false (by omega);have t6:decide ((57:Int) <(p:Int))=false:=decide_eq_false (by omega);clear hs hd hd2 fj hne;go_enter Tryz.func87,Tryz.ntmps87;go_wp2_with fail;refine wp_loop_rounds 3 ?_;rw[rounds_succ];go_wp2_with fail;rw[rounds_succ];go_wp2_with fail;rw[rounds_succ];go_wp2_with fail;go_ret2;exact⟨by simp,rfl⟩
theorem num2z(w:World)(d:UInt8):Calls Tryz.prog 87 #[.string (ofL [48,d])] w fun e w'=> e= .returned (.tuple #[.int .i64 0,.bool false])/\w=w':=by
 have hs:ofL [48,d]=({data:=#[48,d]}:ByteArray):=rfl;have h0: ∀h,({data:=#[48,d]}:ByteArray)[0]'h=48:=fun _=> rfl
 rw[hs];clear hs;go_enter Tryz.func87,Tryz.ntmps87;go_wp2_with fail;go_ret2;exact⟨rfl,rfl⟩
theorem y107(s:ByteArray)(a b:Nat):s.extract a b=ofL ((s.data.toList.drop a).take (b - a)):=by
 apply ByteArray.ext
 apply Array.toList_inj.1
 simp[ofL,ByteArray.data_extract,Array.toList_extract,List.extract]
theorem q83(s:ByteArray){a:Nat}(h:a < s.size):s.data.toList[a]? =some s[a]:=by
 rw[Array.getElem?_toList,Array.getElem?_eq_getElem (by exact h)]
 rfl
theorem j43(s:ByteArray){a:Nat}(h:s.size<=a):s.data.toList[a]? =none:=by
 rw[Array.getElem?_toList,Array.getElem?_eq_none (by exact h)]
theorem j108(s:ByteArray)(a:Nat):s.extract a a=ofL []:=by rw[y107];simp
theorem j165(s:ByteArray){a:Nat}(h:a < s.size):s.extract a (a+1)=ofL [s[a]]:=by
 rw[y107];have hl:a < s.data.toList.length:=by rw[Array.length_toList];exact h
 rw[List.drop_eq_getElem_cons hl,show a+1 - a=0+1 by omega,List.take_succ_cons,List.take_zero]
 rfl
theorem ext_two(s:ByteArray){a:Nat}(h:a < s.size)(h1:a+1 < s.size):s.extract a (a+2)=ofL [s[a],s[a+1]]:=by
 rw[y107];have hl:a < s.data.toList.length:=by rw[Array.length_toList];exact h
 have M6:a+1 < s.data.toList.length:=by rw[Array.length_toList];exact h1
 rw[List.drop_eq_getElem_cons hl,List.drop_eq_getElem_cons M6,show a+2 - a=0+1+1 by omega,List.take_succ_cons,List.take_succ_cons,List.take_zero]
 rfl
theorem slc{s:ByteArray}{a e:Nat}{j:Int}{x:ByteArray}(h:a<=e)(h2:e<=s.size)(hj:j=e)(hx:s.extract a e=x)(w:World):(Instr.slice 9 (.string s) (some (.int .i64 a)) (some (.int .i64 j)) none).run Tryz.prog w= .ok (.string x) w:=by
 subst hj;have:=run_slice_string (P:=Tryz.prog) w 9 s .i64 .i64 (a:Int) (e:Int) Tryz.underlying9 (by omega) (by omega) (by omega);rw[this,<-hx]
 rfl
def resN:Option (Int×Nat)->Int×Int
 |some (x,b)=>(x,b)
 |none=>(0,-1)
theorem q132(s:ByteArray)(a:Nat)(w:World)(hs:s.size<=1000000000)(ha:a<=s.size):Calls Tryz.prog 56 #[.string s,.int .i64 a,.int .i64 2] w fun e w'=> e= .returned (.tuple #[.int .i64 (resN (numS s.data.toList a true)).1,.int .i64 (resN (numS s.data.toList a true)).2])/\w=w':=by
 obtain⟨R,hR⟩: ∃R,R=resN (numS s.data.toList a true):=⟨_,rfl⟩;rw[<-hR];by_cases h0:a < s.size
 · obtain⟨c,hc⟩: ∃c,s[a]=c:=⟨_,rfl⟩
   have hl:=q83 s h0;rw[hc] at hl;by_cases hd:q29 c=true
   · obtain⟨g1,g2⟩:=j89 hd
     have V3:=j165 s h0;rw[hc] at V3;have hx1:=slc (j:=(a:Int)+1) (Nat.le_succ a) (by omega) rfl V3;have Bi:=hdq V3;clear V3;obtain⟨m,hm⟩: ∃m,c.toNat=m:=⟨_,rfl⟩;have HN:=hdq (fun W=> num1 W c hd);rw[hm] at g1 g2 HN;have t1:decide ((48:Int)<=(m:Int))=true:=decide_eq_true (by omega);have t2:decide ((m:Int)<=57)=true:=decide_eq_true (by omega);have nz:R=resN (some ((m:Int) - 48,a+1))->R=((m:Int) - 48,(a:Int)+1):=fun h=> by rw[h];simp[resN]
     by_cases h1:a+1 < s.size
     · obtain⟨d,hdd⟩: ∃d,s[a+1]=d:=⟨_,rfl⟩
       have M6:=q83 s h1;rw[hdd] at M6;have t4:decide ((a:Int)+1 <(s.size:Int))=true:=decide_eq_true (by omega);have t5:decide ((a:Int)+1 <(a:Int)+2)=true:=decide_eq_true (by omega);by_cases ni:q29 d=true
       · obtain⟨q1,q2⟩:=j89 ni
         have ou:=ext_two s h0 h1;rw[hc,hdd] at ou;have hx2:=slc (j:=(a:Int)+1+1) (show a<=a+2 by omega) (by omega) (by omega) ou;obtain⟨p,hp⟩: ∃p,d.toNat=p:=⟨_,rfl⟩;have u1:decide ((48:Int)<=(p:Int))=true:=decide_eq_true (by omega);have u2:decide ((p:Int)<=57)=true:=decide_eq_true (by omega);have t6:decide ((a:Int)+1+1 <(a:Int)+2)=false:=decide_eq_false (by omega);obtain⟨t7,ht7⟩: ∃t7,decide ((a:Int)+1+1 <(s.size:Int))=t7:=⟨_,rfl⟩;by_cases fj:c=48
         · subst fj
           have Hm:=hdq (fun W=> num2z W d);have C6:R=(0,-1):=by rw[hR];unfold numS;rw[hl];simp only[hd,M6,ni];rfl
           have HR:=hdq C6;clear hR C6 hd hl nz M6 ni ou HN hx1;cases t7
           all_goals
            go_enter Tryz.func56,Tryz.ntmps56;go_wp2_with fail;refine wp_loop_rounds 3 ?_;rw[rounds_succ];go_wp2_with fail;rw[rounds_succ];go_wp2_with fail;rw[rounds_succ];go_wp2_with fail;refine(Hm.out _).mono ?_;rintro e w1 ⟨rfl,rfl⟩;go_wp2_with fail;go_ret2;exact⟨by rw[HR.out];rfl,rfl⟩
         · have Hm:=hdq (fun W=> num2 W c d hd ni fj)
           rw[hm,hp] at Hm;have C6:R=(((m:Int) - 48)*10+((p:Int) - 48),(a:Int)+2):=by rw[hR];unfold numS;rw[hl];simp only[hd,M6,ni,fj];rw[hm,hp];simp[resN]
           have HR:=hdq C6;have HZ:=hdq (show(a:Int)+1+1=a+2 by omega);clear hR C6 hd hl nz M6 ni ou HN hx1 fj;cases t7
           all_goals
            go_enter Tryz.func56,Tryz.ntmps56;go_wp2_with fail;refine wp_loop_rounds 3 ?_;rw[rounds_succ];go_wp2_with fail;rw[rounds_succ];go_wp2_with fail;rw[rounds_succ];go_wp2_with fail;refine(Hm.out _).mono ?_;rintro e w1 ⟨rfl,rfl⟩;go_wp2_with fail;go_ret2;exact⟨by rw[HR.out,<-HZ.out];rfl,rfl⟩
       · have uy:q29 d=false:=by simpa using ni
         obtain⟨p,hp⟩: ∃p,d.toNat=p:=⟨_,rfl⟩;have hn:=j167 uy;rw[hp] at hn;have C6:R=((m:Int) - 48,(a:Int)+1):=nz (by rw[hR];unfold numS;rw[hl];simp only[hd,M6,uy];rw[hm];rfl);have HR:=hdq C6;clear hR C6 hd hl nz M6 ni uy;obtain⟨u1,hu1⟩: ∃u1,decide ((48:Int)<=(p:Int))=u1:=⟨_,rfl⟩;have Ob:u1=true->decide ((p:Int)<=57)=false:=fun h=> by rw[h] at hu1;have:=of_decide_eq_true hu1;exact decide_eq_false (by omega)
         cases u1
         · clear Ob
           go_enter Tryz.func56,Tryz.ntmps56;go_wp2_with fail;refine wp_loop_rounds 2 ?_;rw[rounds_succ];go_wp2_with fail;rw[rounds_succ];go_wp2_with fail;refine(HN.out _).mono ?_;rintro e w1 ⟨rfl,rfl⟩;go_wp2_with fail;go_ret2;exact⟨by rw[HR.out];rfl,rfl⟩
         · have u2:=Ob rfl
           clear Ob;go_enter Tryz.func56,Tryz.ntmps56;go_wp2_with fail;refine wp_loop_rounds 2 ?_;rw[rounds_succ];go_wp2_with fail;rw[rounds_succ];go_wp2_with fail;refine(HN.out _).mono ?_;rintro e w1 ⟨rfl,rfl⟩;go_wp2_with fail;go_ret2;exact⟨by rw[HR.out];rfl,rfl⟩
     · have C6:R=((m:Int) - 48,(a:Int)+1):=nz (by rw[hR];unfold numS;rw[hl];simp only[hd,j43 s (show s.size<=a+1 by omega)];rw[hm];rfl)
       have HR:=hdq C6;have t4:decide ((a:Int)+1 <(s.size:Int))=false:=decide_eq_false (by omega);have t5:decide ((a:Int) <(a:Int)+2)=true:=decide_eq_true (by omega);clear hR C6 hd hl nz;go_enter Tryz.func56,Tryz.ntmps56;go_wp2_with fail;refine wp_loop_rounds 2 ?_;rw[rounds_succ];go_wp2_with fail;rw[rounds_succ];go_wp2_with fail;refine(HN.out _).mono ?_;rintro e w1 ⟨rfl,rfl⟩;go_wp2_with fail;go_ret2;exact⟨by rw[HR.out];rfl,rfl⟩
   · have J8:q29 c=false:=by simpa using hd
     have hx0:=slc (j:=(a:Int)) (Nat.le_refl a) (by omega) rfl (j108 s a);have J3:R=(0,-1):=by
      rw[hR];unfold numS;rw[hl];simp only[J8]
      rfl
     obtain⟨m,hm⟩: ∃m,c.toNat=m:=⟨_,rfl⟩;have hn:=j167 J8;rw[hm] at hn;have HR:=hdq J3;clear hR J3 hd J8 hl;by_cases M3:m < 48
     · have t1:decide ((48:Int)<=(m:Int))=false:=decide_eq_false (by omega)
       go_enter Tryz.func56,Tryz.ntmps56;go_wp2_with fail;refine wp_loop_rounds 1 ?_;rw[rounds_succ];go_wp2_with fail;refine(num0 _).mono ?_;rintro e w1 ⟨rfl,rfl⟩;go_wp2_with fail;go_ret2;exact⟨by rw[HR.out];rfl,rfl⟩
     · have t1:decide ((48:Int)<=(m:Int))=true:=decide_eq_true (by omega)
       have t2:decide ((m:Int)<=57)=false:=decide_eq_false (by omega);go_enter Tryz.func56,Tryz.ntmps56;go_wp2_with fail;refine wp_loop_rounds 1 ?_;rw[rounds_succ];go_wp2_with fail;refine(num0 _).mono ?_;rintro e w1 ⟨rfl,rfl⟩;go_wp2_with fail;go_ret2;exact⟨by rw[HR.out];rfl,rfl⟩
 · have J3:R=(0,-1):=by
    rw[hR];unfold numS;rw[j43 s (by omega)]
    rfl
   have hx0:=slc (j:=(a:Int)) (Nat.le_refl a) (by omega) rfl (j108 s a);have t0:decide ((a:Int) <(s.size:Int))=false:=decide_eq_false (by omega);have HR:=hdq J3;clear hR J3;go_enter Tryz.func56,Tryz.ntmps56;go_wp2_with fail;refine wp_loop_rounds 1 ?_;rw[rounds_succ];go_wp2_with fail;refine(num0 _).mono ?_;rintro e w1 ⟨rfl,rfl⟩;go_wp2_with fail;go_ret2;exact⟨by rw[HR.out];rfl,rfl⟩
theorem j129(s:ByteArray)(a:Nat)(w:World)(hs:s.size<=1000000000)(ha:a<=s.size):Calls Tryz.prog 56 #[.string s,.int .i64 a,.int .i64 1] w fun e w'=> e= .returned (.tuple #[.int .i64 (resN (numS s.data.toList a false)).1,.int .i64 (resN (numS s.data.toList a false)).2])/\w=w':=by
 obtain⟨R,hR⟩: ∃R,R=resN (numS s.data.toList a false):=⟨_,rfl⟩;rw[<-hR];by_cases h0:a < s.size
 · obtain⟨c,hc⟩: ∃c,s[a]=c:=⟨_,rfl⟩
   have hl:=q83 s h0;rw[hc] at hl;by_cases hd:q29 c=true
   · obtain⟨g1,g2⟩:=j89 hd
     have V3:=j165 s h0;rw[hc] at V3;have hx1:=slc (j:=(a:Int)+1) (Nat.le_succ a) (by omega) rfl V3;have Bi:=hdq V3;clear V3;obtain⟨m,hm⟩: ∃m,c.toNat=m:=⟨_,rfl⟩;have HN:=hdq (fun W=> num1 W c hd);rw[hm] at g1 g2 HN;have t1:decide ((48:Int)<=(m:Int))=true:=decide_eq_true (by omega);have t2:decide ((m:Int)<=57)=true:=decide_eq_true (by omega);have nz:R=resN (some ((m:Int) - 48,a+1))->R=((m:Int) - 48,(a:Int)+1):=fun h=> by rw[h];simp[resN]
     have C6:R=((m:Int) - 48,(a:Int)+1):=nz (by rw[hR];unfold numS;rw[hl];simp only[hd];rw[hm];rfl);have HR:=hdq C6;have t3:decide ((a:Int)+1 <(a:Int)+1)=false:=decide_eq_false (by omega);clear hR C6 hd hl nz;have O8:s.size=a+1\/a+1 < s.size:=by omega
     go_enter Tryz.func56,Tryz.ntmps56;go_wp2_with fail;refine wp_loop_rounds 2 ?_;rw[rounds_succ];go_wp2_with fail;rw[rounds_succ];rcases O8 with h|h
     · have t4:decide ((a:Int)+1 <(s.size:Int))=false:=decide_eq_false (by omega)
       go_wp2_with fail;refine(HN.out _).mono ?_;rintro e w1 ⟨rfl,rfl⟩;go_wp2_with fail;go_ret2;exact⟨by rw[HR.out];rfl,rfl⟩
     · have t4:decide ((a:Int)+1 <(s.size:Int))=true:=decide_eq_true (by omega)
       go_wp2_with fail;refine(HN.out _).mono ?_;rintro e w1 ⟨rfl,rfl⟩;go_wp2_with fail;go_ret2;exact⟨by rw[HR.out];rfl,rfl⟩
   · have J8:q29 c=false:=by simpa using hd
     have hx0:=slc (j:=(a:Int)) (Nat.le_refl a) (by omega) rfl (j108 s a);have J3:R=(0,-1):=by
      rw[hR];unfold numS;rw[hl];simp only[J8]
      rfl
     obtain⟨m,hm⟩: ∃m,c.toNat=m:=⟨_,rfl⟩;have hn:=j167 J8;rw[hm] at hn;have HR:=hdq J3;clear hR J3 hd J8 hl;by_cases M3:m < 48
     · have t1:decide ((48:Int)<=(m:Int))=false:=decide_eq_false (by omega)
       go_enter Tryz.func56,Tryz.ntmps56;go_wp2_with fail;refine wp_loop_rounds 1 ?_;rw[rounds_succ];go_wp2_with fail;refine(num0 _).mono ?_;rintro e w1 ⟨rfl,rfl⟩;go_wp2_with fail;go_ret2;exact⟨by rw[HR.out];rfl,rfl⟩
     · have t1:decide ((48:Int)<=(m:Int))=true:=decide_eq_true (by omega)
       have t2:decide ((m:Int)<=57)=false:=decide_eq_false (by omega);go_enter Tryz.func56,Tryz.ntmps56;go_wp2_with fail;refine wp_loop_rounds 1 ?_;rw[rounds_succ];go_wp2_with fail;refine(num0 _).mono ?_;rintro e w1 ⟨rfl,rfl⟩;go_wp2_with fail;go_ret2;exact⟨by rw[HR.out];rfl,rfl⟩
 · have J3:R=(0,-1):=by
    rw[hR];unfold numS;rw[j43 s (by omega)]
    rfl
   have hx0:=slc (j:=(a:Int)) (Nat.le_refl a) (by omega) rfl (j108 s a);have t0:decide ((a:Int) <(s.size:Int))=false:=decide_eq_false (by omega);have HR:=hdq J3;clear hR J3;go_enter Tryz.func56,Tryz.ntmps56;go_wp2_with fail;refine wp_loop_rounds 1 ?_;rw[rounds_succ];go_wp2_with fail;refine(num0 _).mono ?_;rintro e w1 ⟨rfl,rfl⟩;go_wp2_with fail;go_ret2;exact⟨by rw[HR.out];rfl,rfl⟩
theorem y25{w:World}{base:Nat}{e:TypeId}{v:Value}{ns:List Int}(hG:w.ownsRow base e 1 v ns.length (ns.map (Value.int .i64))): ∃B c,v= .slice B ns.length c/\ns.length<=c/\c<=maxLen/\Nums w B ns:=by
 have cw:=fun g' qz=> hG.cells (g:=g') qz
 rcases hG.2 with⟨rfl,h0⟩ |⟨g',c',cur,rfl,hb',qz,Oh,hm',_⟩
 · obtain rfl:ns= []:=List.eq_nil_of_length_eq_zero h0
   exact⟨none,0,rfl,Nat.le_refl _,Nat.zero_le _,.inl rfl⟩
 · refine⟨_,c',rfl,Oh,hm',.inr ⟨g',0,rfl,j10 qz,fun jj hjj=> ?_⟩⟩
   have:=cw g' rfl jj (.int .i64 ns[jj]) (by rw[List.getElem?_map,List.getElem?_eq_getElem hjj];rfl)
   rwa [Addr.add_lit] at this
end Go.Proofs.YtbnkbepgmenblaaGreatDoor
