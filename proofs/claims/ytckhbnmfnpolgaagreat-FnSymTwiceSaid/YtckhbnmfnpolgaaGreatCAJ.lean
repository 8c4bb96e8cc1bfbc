/-
  Lemmas towards the law, 10: Parse, Sub, Ints2, DefKit, Parse2.
-/
import Derived.Test.YtckhbnmfnpolgaaGreatC00
import Derived.Test.YtckhbnmfnpolgaaGreatCAI
import Derived.Laws.Strings2
open Go renaming World->aL,Calls->aX,wp_loop_rounds->eP,rounds_succ->dO,TypeId->aZ,Value->aT,heap_alloc_new->aS,bodyPost_ret->aP,results->aR
open Array renaming length_toList->jV
open List renaming drop_eq_getElem_cons->cL,take_succ_cons->kT,eq_nil_of_length_eq_zero->bO
open Nat renaming le_refl->aN
open Bool renaming and_eq_true->aW,true_and->bT
open Go.World renaming size_alloc->eM
open Go.Proofs.Tryz
set_option linter.all false
set_option maxHeartbeats 2000000
set_option maxRecDepth 100000
namespace Go.Proofs.YtckhbnmfnpolgaaGreat
open Go.RowKit
theorem Zg{c:UInt8}(h:pf c=true):48<=c.toNat/\c.toNat<=57:=by
 unfold pf at h;simp[UInt8.le_iff_toNat_le] at h
 exact h
theorem Tv{c:UInt8}(h:pf c=false):c.toNat < 48\/57 < c.toNat:=by
 unfold pf at h;simp[UInt8.le_iff_toNat_le] at h
 omega
theorem cg(w:aL):aX prog 197 #[.string (G5 [])] w fun e a=> e= .returned (.tuple #[m0 0,.bool false])/\w=a:=by
 have hs:G5 []=({data:=#[]}:ByteArray):=rfl;rw[hs];clear hs;go_enter func197,ntmps197;go_wp2_with fail;go_ret2;exact⟨rfl,rfl⟩
theorem Nz(w:aL)(c:UInt8)(hd:pf c=true):aX prog 197 #[.string (G5 [c])] w fun e b=> e= .returned (.tuple #[m0 ((c.toNat:Int) - 48),.bool true])/\w=b:=by
 have hs:G5 [c]=({data:=#[c]}:ByteArray):=rfl;obtain⟨f,d⟩:=Zg hd;have g: ∀h,({data:=#[c]}:ByteArray)[0]'h=c:=fun _=> rfl
 obtain⟨m,hm⟩: ∃m,c.toNat=m:=⟨_,rfl⟩;rw[hs];rw[hm] at f d⊢;have t1:((m:Int)==45)=false:=by rw[beq_eq_false_iff_ne];omega
 have t2:decide ((m:Int) < 48)=false:=decide_eq_false (by omega);have j:decide ((57:Int) <(m:Int))=false:=decide_eq_false (by omega);clear hs hd;obtain⟨a,i⟩: ∃a,((m:Int)==48)=a:=⟨_,rfl⟩;cases a
 all_goals
  go_enter func197,ntmps197;go_wp2_with fail;refine eP 2 ?_;rw[dO];go_wp2_with fail;rw[dO];go_wp2_with fail;go_ret2;exact⟨by simp,rfl⟩
theorem EF(w:aL)(c d:UInt8)(hd:pf c=true)(a:pf d=true)(f:c≠48):aX prog 197 #[.string (G5 [c,d])] w fun e g=> e= .returned (.tuple #[m0 (((c.toNat:Int) - 48)*10+((d.toNat:Int) - 48)),.bool true])/\w=g:=by
 have hs:G5 [c,d]=({data:=#[c,d]}:ByteArray):=rfl;obtain⟨n,k⟩:=Zg hd;obtain⟨j,i⟩:=Zg a;have r: ∀h,({data:=#[c,d]}:ByteArray)[0]'h=c:=fun _=> rfl
 have s: ∀h,({data:=#[c,d]}:ByteArray)[1]'h=d:=fun _=> rfl
 have b:c.toNat≠48:=fun h=> f (UInt8.toNat_inj.1 h)
 obtain⟨m,hm⟩: ∃m,c.toNat=m:=⟨_,rfl⟩;obtain⟨p,l⟩: ∃p,d.toNat=p:=⟨_,rfl⟩;rw[hs];rw[hm] at n k b⊢;rw[l] at j i⊢;have t1:((m:Int)==45)=false:=by rw[beq_eq_false_iff_ne];omega
 have t2:decide ((m:Int) < 48)=false:=decide_eq_false (by omega);have t:decide ((57:Int) <(m:Int))=false:=decide_eq_false (by omega);have q:((m:Int)==48)=false:=by rw[beq_eq_false_iff_ne];omega
 have o:decide ((p:Int) < 48)=false:=decide_eq_false (by omega);have u:decide ((57:Int) <(p:Int))=false:=decide_eq_false (by omega);clear hs hd a f b;go_enter func197,ntmps197;go_wp2_with fail;refine eP 3 ?_;rw[dO];go_wp2_with fail;rw[dO];go_wp2_with fail;rw[dO];go_wp2_with fail;go_ret2;exact⟨by simp,rfl⟩
theorem IB(w:aL)(d:UInt8):aX prog 197 #[.string (G5 [48,d])] w fun e a=> e= .returned (.tuple #[m0 0,.bool false])/\w=a:=by
 have hs:G5 [48,d]=({data:=#[48,d]}:ByteArray):=rfl;have b: ∀h,({data:=#[48,d]}:ByteArray)[0]'h=48:=fun _=> rfl
 rw[hs];clear hs;go_enter func197,ntmps197;go_wp2_with fail;go_ret2;exact⟨rfl,rfl⟩
theorem gx(s:ByteArray)(a b:Nat):s.extract a b=G5 ((s.data.toList.drop a).take (b - a)):=by
 apply ByteArray.ext
 apply Array.toList_inj.1
 simp[G5,ByteArray.data_extract,Array.toList_extract,List.extract]
theorem Bp(s:ByteArray){a:Nat}(h:a < s.size):s.data.toList[a]? =some s[a]:=by
 rw[Array.getElem?_toList,Array.getElem?_eq_getElem (by exact h)]
 rfl
theorem Bn(s:ByteArray){a:Nat}(h:s.size<=a):s.data.toList[a]? =none:=by
 rw[Array.getElem?_toList,Array.getElem?_eq_none (by exact h)]
theorem er(s:ByteArray)(a:Nat):s.extract a a=G5 []:=by rw[gx];simp
theorem CB(s:ByteArray){a:Nat}(h:a < s.size):s.extract a (a+1)=G5 [s[a]]:=by
 rw[gx];have hl:a < s.data.toList.length:=by rw[jV];exact h
 rw[cL hl,show a+1 - a=0+1 by omega,kT,List.take_zero]
 rfl
theorem nm(s:ByteArray){a:Nat}(h:a < s.size)(b:a+1 < s.size):s.extract a (a+2)=G5 [s[a],s[a+1]]:=by
 rw[gx];have hl:a < s.data.toList.length:=by rw[jV];exact h
 have c:a+1 < s.data.toList.length:=by rw[jV];exact b
 rw[cL hl,cL c,show a+2 - a=0+1+1 by omega,kT,kT,List.take_zero]
 rfl
theorem Zs{s:ByteArray}{a e:Nat}{j:Int}{x:ByteArray}(h:a<=e)(c:e<=s.size)(b:j=e)(hx:s.extract a e=x)(w:aL):(Instr.slice 9 (.string s) (some (m0 a)) (some (m0 j)) none).run prog w= .ok (.string x) w:=by
 subst b;have:=run_slice_string (P:=prog) w 9 s .i64 .i64 (a:Int) (e:Int) underlying9 (by omega) (by omega) (by omega);rw[this,<-hx]
 rfl
def pb:Option (Int×Nat)->Int×Int
 |some (x,b)=>(x,b)
 |none=>(0,-1)
theorem OI(s:ByteArray)(a:Nat)(w:aL)(hs:s.size<=1000000000)(S:a<=s.size):aX prog 192 #[.string s,m0 a,m0 2] w fun e J=> e= .returned (.tuple #[m0 (pb (n7 s.data.toList a true)).1,m0 (pb (n7 s.data.toList a true)).2])/\w=J:=by
 obtain⟨R,b⟩: ∃R,R=pb (n7 s.data.toList a true):=⟨_,rfl⟩;rw[<-b];by_cases F:a < s.size
 · obtain⟨c,hc⟩: ∃c,s[a]=c:=⟨_,rfl⟩
   have hl:=Bp s F;rw[hc] at hl;by_cases hd:pf c=true
   · obtain⟨L,K⟩:=Zg hd
     have v:=CB s F;rw[hc] at v;have hx1:=Zs (j:=(a:Int)+1) (Nat.le_succ a) (by omega) rfl v;have P:=hdq v;clear v;obtain⟨m,hm⟩: ∃m,c.toNat=m:=⟨_,rfl⟩;have l:=hdq (fun W=> Nz W c hd);rw[hm] at L K l;have t1:decide ((48:Int)<=(m:Int))=true:=decide_eq_true (by omega);have t2:decide ((m:Int)<=57)=true:=decide_eq_true (by omega);have n:R=pb (some ((m:Int) - 48,a+1))->R=((m:Int) - 48,(a:Int)+1):=fun h=> by rw[h];simp[pb]
     by_cases G:a+1 < s.size
     · obtain⟨d,r⟩: ∃d,s[a+1]=d:=⟨_,rfl⟩
       have i:=Bp s G;rw[r] at i;have M:decide ((a:Int)+1 <(s.size:Int))=true:=decide_eq_true (by omega);have I:decide ((a:Int)+1 <(a:Int)+2)=true:=decide_eq_true (by omega);by_cases g:pf d=true
       · obtain⟨U,Q⟩:=Zg g
         have z:=nm s F G;rw[hc,r] at z;have hx2:=Zs (j:=(a:Int)+1+1) (show a<=a+2 by omega) (by omega) (by omega) z;obtain⟨p,x⟩: ∃p,d.toNat=p:=⟨_,rfl⟩;have t:decide ((48:Int)<=(p:Int))=true:=decide_eq_true (by omega);have H:decide ((p:Int)<=57)=true:=decide_eq_true (by omega);have V:decide ((a:Int)+1+1 <(a:Int)+2)=false:=decide_eq_false (by omega);obtain⟨A,N⟩: ∃A,decide ((a:Int)+1+1 <(s.size:Int))=A:=⟨_,rfl⟩;by_cases y:c=48
         · subst y
           have u:=hdq (fun W=> IB W d);have f:R=(0,-1):=by rw[b];unfold n7;rw[hl];simp only[hd,i,g];rfl
           have HR:=hdq f;clear b f hd hl n i g z l hx1;cases A
           all_goals
            go_enter func192,ntmps192;go_wp2_with fail;refine eP 3 ?_;rw[dO];go_wp2_with fail;rw[dO];go_wp2_with fail;rw[dO];go_wp2_with fail;refine(u.out _).mono ?_;rintro e k ⟨rfl,rfl⟩;go_wp2_with fail;go_ret2;exact⟨by rw[HR.out];rfl,rfl⟩
         · have u:=hdq (fun W=> EF W c d hd g y)
           rw[hm,x] at u;have f:R=(((m:Int) - 48)*10+((p:Int) - 48),(a:Int)+2):=by rw[b];unfold n7;rw[hl];simp only[hd,i,g,y];rw[hm,x];simp[pb]
           have HR:=hdq f;have O:=hdq (show(a:Int)+1+1=a+2 by omega);clear b f hd hl n i g z l hx1 y;cases A
           all_goals
            go_enter func192,ntmps192;go_wp2_with fail;refine eP 3 ?_;rw[dO];go_wp2_with fail;rw[dO];go_wp2_with fail;rw[dO];go_wp2_with fail;refine(u.out _).mono ?_;rintro e k ⟨rfl,rfl⟩;go_wp2_with fail;go_ret2;exact⟨by rw[HR.out,<-O.out];rfl,rfl⟩
       · have E:pf d=false:=by simpa using g
         obtain⟨p,x⟩: ∃p,d.toNat=p:=⟨_,rfl⟩;have hn:=Tv E;rw[x] at hn;have f:R=((m:Int) - 48,(a:Int)+1):=n (by rw[b];unfold n7;rw[hl];simp only[hd,i,E];rw[hm];rfl);have HR:=hdq f;clear b f hd hl n i g E;obtain⟨t,o⟩: ∃t,decide ((48:Int)<=(p:Int))=t:=⟨_,rfl⟩;have B:t=true->decide ((p:Int)<=57)=false:=fun h=> by rw[h] at o;have:=of_decide_eq_true o;exact decide_eq_false (by omega)
         cases t
         · clear B
           go_enter func192,ntmps192;go_wp2_with fail;refine eP 2 ?_;rw[dO];go_wp2_with fail;rw[dO];go_wp2_with fail;refine(l.out _).mono ?_;rintro e k ⟨rfl,rfl⟩;go_wp2_with fail;go_ret2;exact⟨by rw[HR.out];rfl,rfl⟩
         · have H:=B rfl
           clear B;go_enter func192,ntmps192;go_wp2_with fail;refine eP 2 ?_;rw[dO];go_wp2_with fail;rw[dO];go_wp2_with fail;refine(l.out _).mono ?_;rintro e k ⟨rfl,rfl⟩;go_wp2_with fail;go_ret2;exact⟨by rw[HR.out];rfl,rfl⟩
     · have f:R=((m:Int) - 48,(a:Int)+1):=n (by rw[b];unfold n7;rw[hl];simp only[hd,Bn s (show s.size<=a+1 by omega)];rw[hm];rfl)
       have HR:=hdq f;have M:decide ((a:Int)+1 <(s.size:Int))=false:=decide_eq_false (by omega);have I:decide ((a:Int) <(a:Int)+2)=true:=decide_eq_true (by omega);clear b f hd hl n;go_enter func192,ntmps192;go_wp2_with fail;refine eP 2 ?_;rw[dO];go_wp2_with fail;rw[dO];go_wp2_with fail;refine(l.out _).mono ?_;rintro e k ⟨rfl,rfl⟩;go_wp2_with fail;go_ret2;exact⟨by rw[HR.out];rfl,rfl⟩
   · have D:pf c=false:=by simpa using hd
     have C:=Zs (j:=(a:Int)) (aN a) (by omega) rfl (er s a);have q:R=(0,-1):=by
      rw[b];unfold n7;rw[hl];simp only[D]
      rfl
     obtain⟨m,hm⟩: ∃m,c.toNat=m:=⟨_,rfl⟩;have hn:=Tv D;rw[hm] at hn;have HR:=hdq q;clear b q hd D hl;by_cases T:m < 48
     · have t1:decide ((48:Int)<=(m:Int))=false:=decide_eq_false (by omega)
       go_enter func192,ntmps192;go_wp2_with fail;refine eP 1 ?_;rw[dO];go_wp2_with fail;refine(cg _).mono ?_;rintro e k ⟨rfl,rfl⟩;go_wp2_with fail;go_ret2;exact⟨by rw[HR.out];rfl,rfl⟩
     · have t1:decide ((48:Int)<=(m:Int))=true:=decide_eq_true (by omega)
       have t2:decide ((m:Int)<=57)=false:=decide_eq_false (by omega);go_enter func192,ntmps192;go_wp2_with fail;refine eP 1 ?_;rw[dO];go_wp2_with fail;refine(cg _).mono ?_;rintro e k ⟨rfl,rfl⟩;go_wp2_with fail;go_ret2;exact⟨by rw[HR.out];rfl,rfl⟩
 · have q:R=(0,-1):=by
    rw[b];unfold n7;rw[Bn s (by omega)]
    rfl
   have C:=Zs (j:=(a:Int)) (aN a) (by omega) rfl (er s a);have t0:decide ((a:Int) <(s.size:Int))=false:=decide_eq_false (by omega);have HR:=hdq q;clear b q;go_enter func192,ntmps192;go_wp2_with fail;refine eP 1 ?_;rw[dO];go_wp2_with fail;refine(cg _).mono ?_;rintro e k ⟨rfl,rfl⟩;go_wp2_with fail;go_ret2;exact⟨by rw[HR.out];rfl,rfl⟩
theorem xJ(s:ByteArray)(a:Nat)(w:aL)(hs:s.size<=1000000000)(y:a<=s.size):aX prog 192 #[.string s,m0 a,m0 1] w fun e q=> e= .returned (.tuple #[m0 (pb (n7 s.data.toList a false)).1,m0 (pb (n7 s.data.toList a false)).2])/\w=q:=by
 obtain⟨R,b⟩: ∃R,R=pb (n7 s.data.toList a false):=⟨_,rfl⟩;rw[<-b];by_cases n:a < s.size
 · obtain⟨c,hc⟩: ∃c,s[a]=c:=⟨_,rfl⟩
   have hl:=Bp s n;rw[hc] at hl;by_cases hd:pf c=true
   · obtain⟨t,r⟩:=Zg hd
     have f:=CB s n;rw[hc] at f;have hx1:=Zs (j:=(a:Int)+1) (Nat.le_succ a) (by omega) rfl f;have x:=hdq f;clear f;obtain⟨m,hm⟩: ∃m,c.toNat=m:=⟨_,rfl⟩;have l:=hdq (fun W=> Nz W c hd);rw[hm] at t r l;have t1:decide ((48:Int)<=(m:Int))=true:=decide_eq_true (by omega);have t2:decide ((m:Int)<=57)=true:=decide_eq_true (by omega);have p:R=pb (some ((m:Int) - 48,a+1))->R=((m:Int) - 48,(a:Int)+1):=fun h=> by rw[h];simp[pb]
     have o:R=((m:Int) - 48,(a:Int)+1):=p (by rw[b];unfold n7;rw[hl];simp only[hd];rw[hm];rfl);have HR:=hdq o;have A:decide ((a:Int)+1 <(a:Int)+1)=false:=decide_eq_false (by omega);clear b o hd hl p;have v:s.size=a+1\/a+1 < s.size:=by omega
     go_enter func192,ntmps192;go_wp2_with fail;refine eP 2 ?_;rw[dO];go_wp2_with fail;rw[dO];rcases v with h|h
     · have u:decide ((a:Int)+1 <(s.size:Int))=false:=decide_eq_false (by omega)
       go_wp2_with fail;refine(l.out _).mono ?_;rintro e g ⟨rfl,rfl⟩;go_wp2_with fail;go_ret2;exact⟨by rw[HR.out];rfl,rfl⟩
     · have u:decide ((a:Int)+1 <(s.size:Int))=true:=decide_eq_true (by omega)
       go_wp2_with fail;refine(l.out _).mono ?_;rintro e g ⟨rfl,rfl⟩;go_wp2_with fail;go_ret2;exact⟨by rw[HR.out];rfl,rfl⟩
   · have k:pf c=false:=by simpa using hd
     have i:=Zs (j:=(a:Int)) (aN a) (by omega) rfl (er s a);have d:R=(0,-1):=by
      rw[b];unfold n7;rw[hl];simp only[k]
      rfl
     obtain⟨m,hm⟩: ∃m,c.toNat=m:=⟨_,rfl⟩;have hn:=Tv k;rw[hm] at hn;have HR:=hdq d;clear b d hd k hl;by_cases z:m < 48
     · have t1:decide ((48:Int)<=(m:Int))=false:=decide_eq_false (by omega)
       go_enter func192,ntmps192;go_wp2_with fail;refine eP 1 ?_;rw[dO];go_wp2_with fail;refine(cg _).mono ?_;rintro e g ⟨rfl,rfl⟩;go_wp2_with fail;go_ret2;exact⟨by rw[HR.out];rfl,rfl⟩
     · have t1:decide ((48:Int)<=(m:Int))=true:=decide_eq_true (by omega)
       have t2:decide ((m:Int)<=57)=false:=decide_eq_false (by omega);go_enter func192,ntmps192;go_wp2_with fail;refine eP 1 ?_;rw[dO];go_wp2_with fail;refine(cg _).mono ?_;rintro e g ⟨rfl,rfl⟩;go_wp2_with fail;go_ret2;exact⟨by rw[HR.out];rfl,rfl⟩
 · have d:R=(0,-1):=by
    rw[b];unfold n7;rw[Bn s (by omega)]
    rfl
   have i:=Zs (j:=(a:Int)) (aN a) (by omega) rfl (er s a);have t0:decide ((a:Int) <(s.size:Int))=false:=decide_eq_false (by omega);have HR:=hdq d;clear b d;go_enter func192,ntmps192;go_wp2_with fail;refine eP 1 ?_;rw[dO];go_wp2_with fail;refine(cg _).mono ?_;rintro e g ⟨rfl,rfl⟩;go_wp2_with fail;go_ret2;exact⟨by rw[HR.out];rfl,rfl⟩
def j2:Tr:= .mk 0 0 []
mutual
def shfT(y:Int):Tr->Int->Tr
 | .mk k n a,c=> .mk k (if k=1/\c<=n then n+y else n) (Y7 y k a 0 c)
def Y7(y:Int):Int->List Tr->Nat->Int->List Tr
 |_, [],_,_=> []
 |k,t::ts,i,c=> shfT y t (c+E4 k i)::Y7 y k ts (i+1) c
end
mutual
def Z0(u:Tr):Tr->Int->Int->Tr
 | .mk k n a,x,d=> if k=1/\n=x then shfT d u 0 else .mk k (if k=1/\x < n then n - 1 else n) (n8 u k a 0 x d)
def n8(u:Tr):Int->List Tr->Nat->Int->Int->List Tr
 |_, [],_,_,_=> []
 |k,t::ts,i,x,d=> Z0 u t (x+E4 k i) (d+E4 k i)::n8 u k ts (i+1) x d
end
mutual
def P8(g:Int->Int->Tr):Tr->Int->Tr
 | .mk k n a,b=> if k=1 then g n b else .mk k n (Og g k a 0 b)
def Og(g:Int->Int->Tr):Int->List Tr->Nat->Int->List Tr
 |_, [],_,_=> []
 |k,t::ts,i,b=> P8 g t (b+E4 k i)::Og g k ts (i+1) b
end
mutual
def g8(h:Int->Int->Bool):Tr->Int->Bool
 | .mk k n a,b=> if k=1 then h n b else rd h k a 0 b
def rd(h:Int->Int->Bool):Int->List Tr->Nat->Int->Bool
 |_, [],_,_=> true
 |k,t::ts,i,b=> g8 h t (b+E4 k i)&& rd h k ts (i+1) b
end
theorem OD(y:Int): ∀(k:Int) (ts:List Tr) (i:Nat) (c:Int),(Y7 y k ts i c).length=ts.length
 |_, [],_,_=> rfl
 |k,t::ts,i,c=> by simp[Y7,OD y k ts (i+1) c]
theorem uE(u:Tr): ∀(k:Int) (ts:List Tr) (i:Nat) (x d:Int),(n8 u k ts i x d).length=ts.length
 |_, [],_,_,_=> rfl
 |k,t::ts,i,x,d=> by simp[n8,uE u k ts (i+1) x d]
mutual
theorem BC(y:Int): ∀(t:Tr) (c:Int),cnt (shfT y t c)=cnt t
 | .mk k n a,c=> by
  unfold shfT;simp only[cnt,ND y k a 0 c]
theorem ND(y:Int): ∀(k:Int) (ts:List Tr) (i:Nat) (c:Int),W1 (Y7 y k ts i c)=W1 ts
 |_, [],_,_=> rfl
 |k,t::ts,i,c=> by
  unfold Y7;simp only[W1,BC y t _,ND y k ts (i+1) c]
end
mutual
theorem Px{g:Wc}: ∀{t:Tr} {d e:Int},P0 g t d=true->d<=e->P0 g t e=true
 | .mk k n a,d,e,h,hd=> by
  simp only[P0,aW,decide_eq_true_eq] at h⊢;exact⟨by omega,h.2.1,Xz h.2.2 (by omega)⟩
theorem Xz{g:Wc}: ∀{ts:List Tr} {d e:Int},Z8 g ts d=true->d<=e->Z8 g ts e=true
 | [],_,_,_,_=> rfl
 |t::ts,d,e,h,hd=> by
  simp only[Z8,aW] at h⊢;exact⟨Px h.1 hd,Xz h.2 hd⟩
end
theorem wD{n:Int}{a:List Tr}{d:Int}(h:P0 D0 (.mk 1 n a) d=true):a= []/\0<=n/\n<=20:=by
 obtain⟨b,c,e,-⟩:=Z4 h;have f:=Zi 1;have:(0:Int)=(a.length:Int):=b;exact⟨bO (by omega),c,by omega⟩
def Ri(y c:Int)(n b:Int):Tr:= .mk 1 (if c<=n - b then n+y else n) []
def hsh(y c:Int)(n b:Int):Bool:=if c<=n - b then decide (c<=n+y - b)&& decide (n+y<=20) else true
mutual
theorem ZD(y c:Int): ∀(t:Tr) (b d:Int),P0 D0 t d=true->P8 (Ri y c) t b=shfT y t (c+b)
 | .mk k n e,b,d,h=> by
  unfold P8 shfT;by_cases hk:k=1
  · subst hk
    obtain⟨rfl,-,-⟩:=wD h;rw[if_pos rfl];unfold Ri;by_cases a:c<=n - b
    · rw[if_pos a,if_pos ⟨rfl,by omega⟩];rfl
    · rw[if_neg a,if_neg (by omega)];rfl
  · rw[if_neg hk,if_neg (fun h=> hk h.1),jB y c k e 0 b (d - 1) (Z4 h).2.2.2]
theorem jB(y c:Int): ∀(k:Int) (ts:List Tr) (i:Nat) (b d:Int),(∀t∈ts,P0 D0 t d=true)->Og (Ri y c) k ts i b=Y7 y k ts i (c+b)
 |_, [],_,_,_,_=> rfl
 |k,t::ts,i,b,d,h=> by
  unfold Og Y7;rw[ZD y c t _ d (h t (by simp)),jB y c k ts (i+1) b d (fun t ht=> h t (by simp[ht])),Int.add_assoc]
end
theorem aF{g:Wc}{k n:Int}{a b:Nat}(h:a=b):ni g k n a=ni g k n b:=by rw[h]
mutual
theorem uC(y c:Int)(g:0<=y): ∀(t:Tr) (b d:Int),P0 D0 t d=true->g8 (hsh y c) t b=P0 D0 (shfT y t (c+b)) d
 | .mk k n e,b,d,h=> by
  have a:=h;simp only[P0,aW] at a;unfold g8 shfT;by_cases hk:k=1
  · subst hk
    obtain⟨rfl,i,j⟩:=wD h;have hd:=of_decide_eq_true a.1;rw[if_pos rfl];have hs: ∀x:Int,0<=x->P0 D0 (.mk 1 x []) d=decide (x<=20):=fun x hx=> by
     simp only[P0,Z8,ni,List.length_nil,Bool.and_true];rw[decide_eq_true hd,decide_eq_true (show D0.ops 1=((0:Nat):Int) from rfl),bT,bT]
     show db x 0 20=_
     unfold db;rw[decide_eq_true hx,bT]
    unfold hsh;by_cases f:c<=n - b
    · rw[if_pos f,if_pos ⟨rfl,by omega⟩,show Y7 y 1 [] 0 (c+b)= [] from rfl,hs _ (by omega),decide_eq_true (by omega),bT]
    · rw[if_neg f,if_neg (by omega),show Y7 y 1 [] 0 (c+b)= [] from rfl,hs _ i,decide_eq_true j]
  · rw[if_neg hk,if_neg (fun h=> hk h.1),aD y c g k e 0 b (d - 1) a.2.2]
    simp only[P0];rw[a.1,aF (OD y k e 0 (c+b)),a.2.1]
    rfl
theorem aD(y c:Int)(a:0<=y): ∀(k:Int) (ts:List Tr) (i:Nat) (b d:Int),Z8 D0 ts d=true->rd (hsh y c) k ts i b=Z8 D0 (Y7 y k ts i (c+b)) d
 |_, [],_,_,_,_=> rfl
 |k,t::ts,i,b,d,h=> by
  simp only[Z8,aW] at h;unfold rd Y7;simp only[Z8];rw[uC y c a t _ d h.1,aD y c a k ts (i+1) b d h.2,Int.add_assoc]
end
theorem QF{y c:Int}(e:0<=y){t:Tr}(h:j0 D0 t=true):(g8 (hsh y c) t 0 && j0 D0 (P8 (Ri y c) t 0))=j0 D0 (shfT y t c)/\P8 (Ri y c) t 0=shfT y t c:=by
 obtain⟨b,f⟩:=Z3 h;have a:=ZD y c t 0 30 b;have d:=uC y c e t 0 30 b;rw[Int.add_zero] at a d;refine⟨?_,a⟩;rw[a,d];unfold j0;cases P0 D0 (shfT y t c) 30 <;> simp
def Pl(u:Tr)(x:Int)(n b:Int):Tr:=if n - b=x then(if j0 D0 (shfT b u 0)=true then shfT b u 0 else j2) else .mk 1 (if x < n - b then n - 1 else n) []
def Rf(u:Tr)(x:Int)(n b:Int):Bool:=if n - b=x then j0 D0 (shfT b u 0) else true
mutual
theorem cE(u:Tr)(x:Int): ∀(t:Tr) (b d:Int),P0 D0 t d=true->g8 (Rf u x) t b=true->P8 (Pl u x) t b=Z0 u t (x+b) b
 | .mk k n f,b,d,h,a=> by
  unfold g8 at a;unfold P8 Z0;by_cases hk:k=1
  · subst hk
    obtain⟨rfl,-,-⟩:=wD h;rw[if_pos rfl] at a⊢;unfold Rf at a;unfold Pl;by_cases c:n - b=x
    · rw[if_pos c] at a⊢
      rw[if_pos a,if_pos (show(1:Int)=1/\n=x+b from⟨rfl,by omega⟩)]
    · rw[if_neg c,if_neg (show¬((1:Int)=1/\n=x+b) from by omega)]
      by_cases e:x < n - b
      · rw[if_pos e,if_pos (show(1:Int)=1/\x+b < n from⟨rfl,by omega⟩)];rfl
      · rw[if_neg e,if_neg (show¬((1:Int)=1/\x+b < n) from by omega)];rfl
  · rw[if_neg hk] at a⊢
    rw[if_neg (fun h=> hk h.1),if_neg (fun h=> hk h.1),gA u x k f 0 b (d - 1) (Z4 h).2.2.2 a]
theorem gA(u:Tr)(x:Int): ∀(k:Int) (ts:List Tr) (i:Nat) (b d:Int),(∀t∈ts,P0 D0 t d=true)->rd (Rf u x) k ts i b=true->Og (Pl u x) k ts i b=n8 u k ts i (x+b) b
 |_, [],_,_,_,_,_=> rfl
 |k,t::ts,i,b,d,h,a=> by
  unfold rd at a;rw[aW] at a;unfold Og n8;rw[cE u x t _ d (h t (by simp)) a.1,gA u x k ts (i+1) b d (fun t ht=> h t (by simp[ht])) a.2,Int.add_assoc]
end
mutual
theorem gB(u:Tr)(x:Int)(f:cnt u<=400): ∀(t:Tr) (b d:Int),P0 D0 t d=true->g8 (Rf u x) t b=false-> ∀e:Int,e<=30->P0 D0 (Z0 u t (x+b) b) e=false
 | .mk k n j,b,d,h,a,e,g=> by
  unfold g8 at a;unfold Z0;by_cases hk:k=1
  · subst hk
    rw[if_pos rfl] at a;unfold Rf at a;by_cases c:n - b=x
    · rw[if_pos c] at a
      rw[if_pos (show(1:Int)=1/\n=x+b from⟨rfl,by omega⟩),Bool.eq_false_iff];intro hs;have i:=Px hs g;unfold j0 at a;rw[i,BC,decide_eq_true f] at a;cases a
    · rw[if_neg c] at a
      cases a
  · rw[if_neg hk] at a
    rw[if_neg (fun h=> hk h.1)];simp only[P0];rw[eA u x f k j 0 b (d - 1) (Z4 h).2.2.2 a (e - 1) (by omega)];simp
theorem eA(u:Tr)(x:Int)(c:cnt u<=400): ∀(k:Int) (ts:List Tr) (i:Nat) (b d:Int),(∀t∈ts,P0 D0 t d=true)->rd (Rf u x) k ts i b=false-> ∀e:Int,e<=30->Z8 D0 (n8 u k ts i (x+b) b) e=false
 |_, [],_,_,_,_,a,_,_=> by unfold rd at a;cases a
 |k,t::ts,i,b,d,h,a,e,f=> by
  unfold rd at a;unfold n8;simp only[Z8];rw[Bool.and_eq_false_iff] at a⊢;rw[Int.add_assoc];rcases a with a|a
  · exact .inl (gB u x c t _ d (h t (by simp)) a e f)
  · exact .inr (eA u x c k ts (i+1) b d (fun t ht=> h t (by simp[ht])) a e f)
end
theorem nH{u:Tr}{x:Int}(e:cnt u<=400){t:Tr}(h:j0 D0 t=true):(g8 (Rf u x) t 0 && j0 D0 (P8 (Pl u x) t 0))=j0 D0 (Z0 u t x 0)/\(g8 (Rf u x) t 0=true->P8 (Pl u x) t 0=Z0 u t x 0):=by
 obtain⟨c,f⟩:=Z3 h;have a:=cE u x t 0 30 c;have d:=gB u x e t 0 30 c;rw[Int.add_zero] at a d;refine⟨?_,a⟩;cases b:g8 (Rf u x) t 0 with
 |true=> rw[a b,bT]
 |false=>
  unfold j0;rw[d b 30 (Int.le_refl _)]
  rfl
theorem mu{w:aL}{base:Nat}{e:aZ}{v:aT}{ns:List Int}(hG:w.ownsRow base e 1 v ns.length (ns.map (Value.int .i64))): ∃B c,v= .slice B ns.length c/\ns.length<=c/\c<=maxLen/\Sa w B ns:=by
 have k:=fun a b=> hG.cells (g:=a) b
 rcases hG.2 with⟨rfl,o⟩ |⟨a,n,j,rfl,m,b,i,l,_⟩
 · obtain rfl:ns= []:=bO o
   exact⟨none,0,rfl,aN _,Nat.zero_le _,.inl rfl⟩
 · refine⟨_,n,rfl,i,l,.inr ⟨a,0,rfl,O1 b,fun d f=> ?_⟩⟩
   have:=k a rfl d (m0 ns[d]) (by rw[List.getElem?_map,List.getElem?_eq_getElem f];rfl)
   rwa [Addr.add_lit] at this
theorem B2.append{w:aL}{e:aZ}{d:List aT}{ts:List Tr}{M:List Nat}(ht:B2 w e d ts M): ∀{a:List aT} {b:List Tr} {L:List Nat},a.length=b.length*3->B2 w e a b L->B2 w e (a++d) (b++ts) (L++M)
 |a, [],L,hx,h=> by
  have c:a= []:=bO (by simpa using hx);subst c;unfold B2 at h;subst h
  simpa using ht
 |a,x::b,L,hx,h=> by
  obtain⟨k,l,f,rest,g,i,rfl,m,j,rfl⟩:=B2.cons_iff.1 h;exact B2.cons_iff.2 ⟨k,l,f,_,g,i++M,rfl,m,B2.append ht (by simp only[List.length_cons] at hx;omega) j,by simp⟩
def Xj(w a:aL)(e:aZ)(b:List aT)(c:List Tr):Prop:= ∃L,B2 a e b c L/\bd w a L
theorem Xj.two{a b c d:aL}{e:aZ}{t1 t2:Tr}{j o k g i f:aT}(n:W0 a b e t1 (.agg #[j,o,k]))(l:W0 c d e t2 (.agg #[g,i,f]))(p:Ext b c)(m:a.heap.size<=b.heap.size)(r:Ext c d):Xj a d e [j,o,k,g,i,f] [t1,t2]:=by
 obtain⟨L,n,q⟩:=n;obtain⟨M,l,s⟩:=l;exact⟨L++(M++ []),B2.cons_iff.2 ⟨j,o,k, [g,i,f],L,M++ [],rfl,n.mono (fun b t=>(p.trans r).heap b (q.2 b t).2),B2.cons_iff.2 ⟨g,i,f, [],M, [],rfl,l,B2.nil,rfl⟩,rfl⟩,by simpa using q.append s p.size m r.size⟩
theorem Xj.since{a w b:aL}{e:aZ}{c:List aT}{d:List Tr}(h:Xj w b e c d)(f:a.heap.size<=w.heap.size):Xj a b e c d:=by
 obtain⟨L,h,hf⟩:=h;exact⟨L,h,hf.mono f (aN _)⟩
def Tp(w:aL)(e d:aZ)(A:Option Addr)(c:List Tr)(L:List Nat):Prop:=
 (c= []/\L= [])\/ ∃b cs a,A=some ⟨b,0,none⟩/\w.heap[b]? =some (.cells cs e (0,0))/\L=b::a/\B2 w d cs.toList c a
def Ds(w a:aL)(e b:aZ)(A:Option Addr)(c:List Tr):Prop:= ∃L,Tp a e b A c L/\bd w a L
theorem Tp.mono{w w':aL}{e a:aZ}{A:Option Addr}{d:List Tr}{L:List Nat}(h:Tp w e a A d L)(c: ∀b,b∈L->w'.heap[b]? =w.heap[b]?):Tp w' e a A d L:=by
 rcases h with h|⟨b,cs,f,rfl,g,rfl,hl⟩
 · exact .inl h
 · exact .inr ⟨b,cs,f,rfl,(c b (by simp)).trans g,rfl,hl.mono (fun x hx=> c x (by simp[hx]))⟩
theorem Ds.row{w d a:aL}{e c:aZ}{g:Nat}{cs:Array aT}{i:List Tr}{L:List Nat}(f:a.heap[g]? =some (.cells cs e (0,0)))(hl:B2 a c cs.toList i L)(hf:bd d a L)(j:w.heap.size<=g)(k:g < d.heap.size):Ds w a e c (some ⟨g,0,none⟩) i:=by
 refine⟨g::L,.inr ⟨g,cs,L,rfl,f,rfl,hl⟩,List.nodup_cons.2 ⟨fun hm=> ?_,hf.1⟩,fun b hm=> ?_⟩
 · have:=hf.2 g hm
   omega
 · rcases List.mem_cons.1 hm with rfl|hm
   · exact⟨j,O1 f⟩
   · have:=hf.2 b hm
     omega
def Y1(B:Nat)(w:aL)(t:Tr)(v:aT):Prop:=InT w (fun b=> B<=b/\b < w.heap.size) t v
theorem Y1.leaf(B:Nat)(w:aL)(k n:Int):Y1 B w (.mk k n []) (M0 k n none 0 0):=InT.mk_iff.2 ⟨none,0,rfl,aN _,Nat.zero_le _,.inl rfl⟩
theorem Y1.ext{B:Nat}{w c:aL}{t:Tr}{v:aT}(h:Y1 B w t v)(d:Ext w c):Y1 B c t v:=h.mono (fun b a=>⟨a.1,Nat.lt_of_lt_of_le a.2 d.size⟩) (fun b a=> d.heap b a.2)
theorem Y1.since{B C:Nat}{w:aL}{t:Tr}{v:aT}(h:Y1 B w t v)(hc:C<=B):Y1 C w t v:=h.mono (fun b a=>⟨Nat.le_trans hc a.1,a.2⟩) (fun _ _=> rfl)
theorem Y1.lies{B:Nat}{w:aL}{t:Tr}{v:aT}(h:Y1 B w t v):Lies w t v:=h.mono (fun b a=> a.2) (fun _ _=> rfl)
theorem Y1.three{B:Nat}{w:aL}{t:Tr}{u:aT}(h:Y1 B w t u): ∃k n A l c,u= M0 k n A l c:=h.lies.three
theorem Y1.set{B:Nat}{w:aL}{t:Tr}{v:aT}(h:Y1 B w t v){p:Addr}(c:p.block < B)(u:aT):Y1 B (w.setCell p u) t v:=
 h.mono (fun b a=>⟨a.1,by simpa using a.2⟩) (fun b a=> Below.heap_setCell w p u b (by omega))
theorem Y1.made{w a:aL}{e:aZ}{t:Tr}{v:aT}(h:W0 w a e t v):Y1 w.heap.size a t v:=by
 obtain⟨L,h,hf⟩:=h;exact InT.mono (fun b c=> hf.2 b c) (fun _ _=> rfl) h.inT
def xb(B:Nat)(w:aL)(A:Option Addr)(a:List Tr):Prop:=InK w (fun b=> B<=b/\b < w.heap.size) A a
theorem xb.one{B g:Nat}{w:aL}{t:Tr}{v0 v1 v2:aT}{e:aZ}(h:Y1 B w t (.agg #[v0,v1,v2]))(hB:B<=w.heap.size)(a:g=w.heap.size):xb B (w.alloc (.cells #[v0,v1,v2] e)) (some ⟨g,0,none⟩) [t]:=
 a▸InK.one (h.ext ((xr w).alloc _)) (aS w _) ⟨hB,by simp⟩
theorem xb.two{B g:Nat}{w:aL}{t u:Tr}{v0 v1 v2 b d c:aT}{e:aZ}(h:Y1 B w t (.agg #[v0,v1,v2]))(f:Y1 B w u (.agg #[b,d,c]))(hB:B<=w.heap.size)(a:g=w.heap.size):xb B (w.alloc (.cells #[v0,v1,v2,b,d,c] e)) (some ⟨g,0,none⟩) [t,u]:=by
 subst a;have hx:=(xr w).alloc (.cells #[v0,v1,v2,b,d,c] e);have a:=aS w (.cells #[v0,v1,v2,b,d,c] e);have j:=h.ext hx;have i:=f.ext hx;refine .inr ⟨w.heap.size,0,rfl,⟨hB,by simp⟩, ?_⟩;unfold O4;refine⟨⟨v0,v1,v2,U1 a 0,U1 a 1,U1 a 2,j⟩, ?_⟩;unfold O4;refine⟨⟨b,d,c,U1 a 3,U1 a 4,U1 a 5,i⟩, ?_⟩;unfold O4
 trivial
theorem Sw(B:Nat)(w:aL)(k:Int)(A:Option Addr)(cap:Nat)(c:List Tr)(hA:A=none->cap=0)(hK:xb B w A c)(hB:B<=w.heap.size)(hn:c.length<=1099511627776):
 aX prog 60 #[m0 k,.slice A c.length cap] w fun e d=> ∃u,e= .returned u/\Y1 B d (.mk k 0 c) u/\Ext w d:=
 (IE w k A cap c hA _ (fun b a=> a.2) hK hn).mono fun e d ⟨u,i,g,f⟩=>⟨u,i,g.mono (fun b a=> by
  have:=f.size;rcases a with a|a
  · exact⟨a.1,by omega⟩
  · exact⟨by omega,a.2⟩) (fun _ _=> rfl),f⟩
def Ya(B:Nat)(w:aL)(size:Nat)(o:Option (Tr×Nat))(e:Ending)(b:aL):Prop:=
 ∃(t:Tr) (u:aT) (a:Int),e= .returned (.tuple #[u,.int .i64 a])/\Y1 B b t u/\Ext w b/\(∀x,o=some x->t=x.1/\a=x.2/\x.2<=size)/\(o=none->a= -1)
def ad(d:Nat):Prop:= ∀(s:ByteArray) (a:Nat) (w:aL),s.size<=1000000000->a<=s.size+2->aX prog 176 #[.string s,.int .i64 a,.int .i64 d] w (Ya w.heap.size w s.size (Z5 d s.data.toList a))
theorem KF(d:Nat)(ih:ad d)(s:ByteArray)(a:Nat)(w:aL)(hs:s.size<=1000000000)(Q:a < s.size)(hc:s[a]=43)(hd:d<=30):
 aX prog 193 #[.string s,m0 a,m0 ((d:Int)+1)] w (Ya w.heap.size w s.size (one 8 (Z5 d s.data.toList (a+1)))):=by
 have m:=hdq (fun W=> ih s (a+1) W hs (by omega));obtain⟨R,k⟩: ∃R,R=Z5 d s.data.toList (a+1):=⟨_,rfl⟩;rw[<-k] at m⊢;clear k ih;go_enter func193,ntmps193;go_wp2_with fail;refine(m.out _).mono ?_;rintro e b ⟨t,u,n,rfl,hF,i,p,l⟩;obtain⟨J,n0,B,q,F,rfl⟩:=hF.three;have z:=i.newBlk;have G:=i.size_alloc;have ap:=hdq p;have E:=hdq l;have j:=hF.ext ((xr b).alloc (H0 J n0 B q F));have c:=(xr w).alloc (H0 0 0 none 0 0);simp only[eM] at j;clear p l hF;go_wp2_with fail;refine(Sw (w.heap.size+1) _ 8 _ 1 [t] (by intro h;cases h) (xb.one (g:=b.heap.size+1) (e:=25) j (by simp;omega) (by simp)) (by simp;omega) (by simp)).mono ?_;rintro e P ⟨v,rfl,hN,o⟩;obtain⟨D,A,H,I,L,rfl⟩:=hN.three;have f:=o.blk (((xr b).alloc _|>.alloc _).blk z);obtain⟨M,N,K,U,T,S⟩:=own3 f;have hx2:=(c.trans i).trans (((xr b).alloc _|>.alloc _).trans o);go_wp2_with fail;refine aP (v:= .tuple #[M0 D A H I L,m0 n]) (by simp[aR,results193,go_sem,M,N,K]) rfl ⟨.mk 8 0 [t],_,n,rfl, ?_, ?_, ?_, ?_⟩
 · exact(((hN.set (by simp) _).set (by simp) _).set (by simp) _).since (by omega)
 · exact((hx2.setCell (by simp) _).setCell (by simp) _).setCell (by simp) _
 · intro x hx
   cases R with
   |none=> cases hx
   |some y=>
    obtain⟨O,C,r⟩:=ap.out y rfl;cases hx
    exact⟨by rw[O],C,r⟩
 · intro hx
   cases R with
   |none=> exact E.out rfl
   |some y=> cases hx
theorem UE(d:Nat)(ih:ad d)(s:ByteArray)(a:Nat)(w:aL)(hs:s.size<=1000000000)(Q:a < s.size)(hc:s[a]=33)(hd:d<=30):
 aX prog 193 #[.string s,m0 a,m0 ((d:Int)+1)] w (Ya w.heap.size w s.size (one 11 (Z5 d s.data.toList (a+1)))):=by
 have m:=hdq (fun W=> ih s (a+1) W hs (by omega));obtain⟨R,k⟩: ∃R,R=Z5 d s.data.toList (a+1):=⟨_,rfl⟩;rw[<-k] at m⊢;clear k ih;go_enter func193,ntmps193;go_wp2_with fail;refine(m.out _).mono ?_;rintro e b ⟨t,u,n,rfl,hF,i,p,l⟩;obtain⟨J,n0,B,q,F,rfl⟩:=hF.three;have z:=i.newBlk;have G:=i.size_alloc;have ap:=hdq p;have E:=hdq l;have j:=hF.ext ((xr b).alloc (H0 J n0 B q F));have c:=(xr w).alloc (H0 0 0 none 0 0);simp only[eM] at j;clear p l hF;go_wp2_with fail;refine(Sw (w.heap.size+1) _ 11 _ 1 [t] (by intro h;cases h) (xb.one (g:=b.heap.size+1) (e:=25) j (by simp;omega) (by simp)) (by simp;omega) (by simp)).mono ?_;rintro e P ⟨v,rfl,hN,o⟩;obtain⟨D,A,H,I,L,rfl⟩:=hN.three;have f:=o.blk (((xr b).alloc _|>.alloc _).blk z);obtain⟨M,N,K,U,T,S⟩:=own3 f;have hx2:=(c.trans i).trans (((xr b).alloc _|>.alloc _).trans o);go_wp2_with fail;refine aP (v:= .tuple #[M0 D A H I L,m0 n]) (by simp[aR,results193,go_sem,M,N,K]) rfl ⟨.mk 11 0 [t],_,n,rfl, ?_, ?_, ?_, ?_⟩
 · exact(((hN.set (by simp) _).set (by simp) _).set (by simp) _).since (by omega)
 · exact((hx2.setCell (by simp) _).setCell (by simp) _).setCell (by simp) _
 · intro x hx
   cases R with
   |none=> cases hx
   |some y=>
    obtain⟨O,C,r⟩:=ap.out y rfl;cases hx
    exact⟨by rw[O],C,r⟩
 · intro hx
   cases R with
   |none=> exact E.out rfl
   |some y=> cases hx
theorem PG(d:Nat)(ih:ad d)(s:ByteArray)(a:Nat)(w:aL)(hs:s.size<=1000000000)(Q:a < s.size)(hc:s[a]=94)(hd:d<=30):
 aX prog 193 #[.string s,m0 a,m0 ((d:Int)+1)] w (Ya w.heap.size w s.size (one 15 (Z5 d s.data.toList (a+1)))):=by
 have m:=hdq (fun W=> ih s (a+1) W hs (by omega));obtain⟨R,k⟩: ∃R,R=Z5 d s.data.toList (a+1):=⟨_,rfl⟩;rw[<-k] at m⊢;clear k ih;go_enter func193,ntmps193;go_wp2_with fail;refine(m.out _).mono ?_;rintro e b ⟨t,u,n,rfl,hF,i,p,l⟩;obtain⟨J,n0,B,q,F,rfl⟩:=hF.three;have z:=i.newBlk;have G:=i.size_alloc;have ap:=hdq p;have E:=hdq l;have j:=hF.ext ((xr b).alloc (H0 J n0 B q F));have c:=(xr w).alloc (H0 0 0 none 0 0);simp only[eM] at j;clear p l hF;go_wp2_with fail;refine(Sw (w.heap.size+1) _ 15 _ 1 [t] (by intro h;cases h) (xb.one (g:=b.heap.size+1) (e:=25) j (by simp;omega) (by simp)) (by simp;omega) (by simp)).mono ?_;rintro e P ⟨v,rfl,hN,o⟩;obtain⟨D,A,H,I,L,rfl⟩:=hN.three;have f:=o.blk (((xr b).alloc _|>.alloc _).blk z);obtain⟨M,N,K,U,T,S⟩:=own3 f;have hx2:=(c.trans i).trans (((xr b).alloc _|>.alloc _).trans o);go_wp2_with fail;refine aP (v:= .tuple #[M0 D A H I L,m0 n]) (by simp[aR,results193,go_sem,M,N,K]) rfl ⟨.mk 15 0 [t],_,n,rfl, ?_, ?_, ?_, ?_⟩
 · exact(((hN.set (by simp) _).set (by simp) _).set (by simp) _).since (by omega)
 · exact((hx2.setCell (by simp) _).setCell (by simp) _).setCell (by simp) _
 · intro x hx
   cases R with
   |none=> cases hx
   |some y=>
    obtain⟨O,C,r⟩:=ap.out y rfl;cases hx
    exact⟨by rw[O],C,r⟩
 · intro hx
   cases R with
   |none=> exact E.out rfl
   |some y=> cases hx
theorem GF(d:Nat)(ih:ad d)(s:ByteArray)(a:Nat)(w:aL)(hs:s.size<=1000000000)(Q:a < s.size)(hc:s[a]=95)(hd:d<=30):
 aX prog 193 #[.string s,m0 a,m0 ((d:Int)+1)] w (Ya w.heap.size w s.size (one 16 (Z5 d s.data.toList (a+1)))):=by
 have m:=hdq (fun W=> ih s (a+1) W hs (by omega));obtain⟨R,k⟩: ∃R,R=Z5 d s.data.toList (a+1):=⟨_,rfl⟩;rw[<-k] at m⊢;clear k ih;go_enter func193,ntmps193;go_wp2_with fail;refine(m.out _).mono ?_;rintro e b ⟨t,u,n,rfl,hF,i,p,l⟩;obtain⟨J,n0,B,q,F,rfl⟩:=hF.three;have z:=i.newBlk;have G:=i.size_alloc;have ap:=hdq p;have E:=hdq l;have j:=hF.ext ((xr b).alloc (H0 J n0 B q F));have c:=(xr w).alloc (H0 0 0 none 0 0);simp only[eM] at j;clear p l hF;go_wp2_with fail;refine(Sw (w.heap.size+1) _ 16 _ 1 [t] (by intro h;cases h) (xb.one (g:=b.heap.size+1) (e:=25) j (by simp;omega) (by simp)) (by simp;omega) (by simp)).mono ?_;rintro e P ⟨v,rfl,hN,o⟩;obtain⟨D,A,H,I,L,rfl⟩:=hN.three;have f:=o.blk (((xr b).alloc _|>.alloc _).blk z);obtain⟨M,N,K,U,T,S⟩:=own3 f;have hx2:=(c.trans i).trans (((xr b).alloc _|>.alloc _).trans o);go_wp2_with fail;refine aP (v:= .tuple #[M0 D A H I L,m0 n]) (by simp[aR,results193,go_sem,M,N,K]) rfl ⟨.mk 16 0 [t],_,n,rfl, ?_, ?_, ?_, ?_⟩
 · exact(((hN.set (by simp) _).set (by simp) _).set (by simp) _).since (by omega)
 · exact((hx2.setCell (by simp) _).setCell (by simp) _).setCell (by simp) _
 · intro x hx
   cases R with
   |none=> cases hx
   |some y=>
    obtain⟨O,C,r⟩:=ap.out y rfl;cases hx
    exact⟨by rw[O],C,r⟩
 · intro hx
   cases R with
   |none=> exact E.out rfl
   |some y=> cases hx
theorem Od{s:ByteArray}{a:Nat}{c:UInt8}(h:a < s.size)(hc:s[a]=c):s.data.toList[a]? =some c:=by rw[Bp s h,hc]
theorem eF(d:Nat)(ih:ad d)(s:ByteArray)(a:Nat)(w:aL)(hs:s.size<=1000000000)(ha:a<=s.size):
 aX prog 194 #[.string s,m0 a,m0 d] w (Ya w.heap.size w s.size (Vx (Z5 d s.data.toList) s.data.toList a)):=by
 have HI:=hdq (fun a W (ha:a<=s.size+2)=> ih s a W hs ha);obtain⟨F,hF⟩: ∃F,F=Z5 d s.data.toList:=⟨_,rfl⟩;rw[<-hF] at HI⊢;have fe:Vx F s.data.toList a=match F a with
  |none=> none
  |some (x,b)=> if Of s.data.toList[b]? =0 then none else
   match F (b+1) with
   |none=> none
   |some (y,c)=> if s.data.toList[c]? =some 41 then some (.mk (Of s.data.toList[b]?) 0 [x,y],c+1) else none:=rfl
 obtain⟨R,hR⟩: ∃R,R=Vx F s.data.toList a:=⟨_,rfl⟩;rw[<-hR] at fe⊢;have HD:=hdq fe;clear hR ih hF fe;go_enter func194,ntmps194;go_wp2_with fail;refine(HI.out a _ (by omega)).mono ?_;rintro e Z ⟨t,u,nx,rfl,hF,e1,E,B⟩;obtain⟨V,n0,Y,X,U,rfl⟩:=hF.three;have hb:=e1.newBlk;have Q:=e1.size_alloc;have hx0:=((xr w).alloc (H0 0 0 none 0 0)).trans e1;have hx1:=hx0.trans ((xr Z).alloc (H0 V n0 Y X U));have W4:=hF.ext ((xr Z).alloc (H0 V n0 Y X U));simp only[eM] at W4;have q:=((xr Z).alloc (H0 V n0 Y X U)).blk hb;have Gy:=aS Z (H0 V n0 Y X U);cases f:F a with
 |none=>
  obtain rfl:=B f;have C:=HD.out;rw[f] at C;have HR:=hdq C;obtain⟨o,p,n,f0,f1,f2⟩:=own3 q;clear E B C f Q;go_wp2_with fail;exact aP (v:= .tuple #[M0 0 0 none 0 0,m0 (-1)]) (by simp[aR,results194,go_sem,o,p,n]) rfl ⟨.mk 0 0 [],_,-1,rfl,Y1.leaf _ _ _ _,((hx1.setCell (by simp) _).setCell (by simp) _).setCell (by simp) _,(fun x hx=> by rw[HR.out] at hx;cases hx),fun _=> rfl⟩
 |some y=>
  obtain⟨x,b⟩:=y;obtain⟨P,N,h3⟩:=E _ f;simp only at P N h3;have i:=HD.out;rw[f] at i;simp only at i;subst P N;clear E B f;have my:=W4;by_cases hlt:b < s.size
  · obtain⟨c,hc⟩: ∃c,s[b]=c:=⟨_,rfl⟩
    rw[Od hlt hc] at i;have hbz:(b:Int) <(s.size:Int):=by omega
    have t0:decide ((b:Int) < 0)=false:=decide_eq_false (by omega);have t1:decide ((s.size:Int)<=(b:Int))=false:=decide_eq_false (by omega);obtain⟨m,hm⟩: ∃m,c.toNat=m:=⟨_,rfl⟩;have Jp:=HI.out (b+1);rw[show((b+1:Nat):Int)=(b:Int)+1 by omega] at Jp;have M:=hdq Jp;clear Jp;by_cases hk:Of (some c)=0
    · rw[if_pos hk] at i
      have HR:=hdq i;have t2:((m:Int)==62)=false:=by rw[beq_eq_false_iff_ne];intro h;have:c=62:=UInt8.toNat_inj.1 (by rw[hm];simp;omega);rw[this] at hk;exact absurd hk (by decide)
      have t3:((m:Int)==42)=false:=by rw[beq_eq_false_iff_ne];intro h;have:c=42:=UInt8.toNat_inj.1 (by rw[hm];simp;omega);rw[this] at hk;exact absurd hk (by decide)
      have t4:((m:Int)==32)=false:=by rw[beq_eq_false_iff_ne];intro h;have:c=32:=UInt8.toNat_inj.1 (by rw[hm];simp;omega);rw[this] at hk;exact absurd hk (by decide)
      clear i hk;go_wp2_with fail;refine(M.out _ (by omega)).mono ?_;rintro e D ⟨t',u',Ge,rfl,r,S,-,-⟩;obtain⟨H,G,J,I,L,rfl⟩:=r.three;have z:=(S.trans ((xr D).alloc (H0 H G J I L))).blk q;obtain⟨o,p,n,f0,f1,f2⟩:=own3 z;have hx2:=hx1.trans (S.trans ((xr D).alloc (H0 H G J I L)));go_wp2_with fail;exact aP (v:= .tuple #[M0 0 0 none 0 0,m0 (-1)]) (by simp[aR,results194,go_sem,o,p,n]) rfl ⟨.mk 0 0 [],_,-1,rfl,Y1.leaf _ _ _ _,((hx2.setCell (by simp) _).setCell (by simp) _).setCell (by simp) _,(fun x hx=> by rw[HR.out] at hx;cases hx),fun _=> rfl⟩
    · rw[if_neg hk] at i
      obtain⟨K,hK⟩: ∃K,Of (some c)=K:=⟨_,rfl⟩;rw[hK] at i hk;have hcs:(m=62/\K=3)\/(m=42/\K=13)\/(m=32/\K=5):=by
       unfold Of at hK;by_cases g1:c=62
       · subst g1;exact .inl ⟨hm.symm,by simpa using hK.symm⟩
       · by_cases g2:c=42
         · subst g2;exact .inr (.inl ⟨hm.symm,by simpa using hK.symm⟩)
         · by_cases g3:c=32
           · subst g3;exact .inr (.inr ⟨hm.symm,by simpa using hK.symm⟩)
           · simp[g1,g2,g3] at hK;exact absurd hK.symm hk
      have Da:=hdq i;clear i hK hk;rcases hcs with⟨rfl,rfl⟩ |⟨rfl,rfl⟩ |⟨rfl,rfl⟩
      all_goals(
       go_wp2_with fail;refine(M.out _ (by omega)).mono ?_;rintro e D ⟨t',u',Ge,rfl,r,S,E,B⟩;obtain⟨H,G,J,I,L,rfl⟩:=r.three;have hs2:=S.size_alloc;have T:=S.trans ((xr D).alloc (H0 H G J I L));have z:=T.blk q;have xf:=T.blk Gy;have U6:=aS D (H0 H G J I L);obtain⟨o,p,n,f0,f1,f2⟩:=own3 z;obtain⟨x0,x1,x2,-,-,-⟩:=own3 xf;have hx2:=hx1.trans T;have hF2:=W4.ext T;have xk:=(r.ext ((xr D).alloc (H0 H G J I L))).since (show w.heap.size+1<=_ by simp;omega);cases j:F (b+1) with
       |none=>
        obtain rfl:=B j;have C:=Da.out;rw[j] at C;have HR:=hdq C;clear E B C j;go_wp2_with fail;exact aP (v:= .tuple #[M0 0 0 none 0 0,m0 (-1)]) (by simp[aR,results194,go_sem,o,p,n]) rfl ⟨.mk 0 0 [],_,-1,rfl,Y1.leaf _ _ _ _,((hx2.setCell (by simp) _).setCell (by simp) _).setCell (by simp) _,(fun x hx=> by rw[HR.out] at hx;cases hx),fun _=> rfl⟩
       |some y2=>
        obtain⟨x',A⟩:=y2;obtain⟨P,N,h3'⟩:=E _ j;simp only at P N h3';have k:=Da.out;rw[j] at k;simp only at k;subst P N;clear E B j;have t5:decide ((A:Int) < 0)=false:=decide_eq_false (by omega);by_cases ek:A < s.size
        · obtain⟨O,hc'⟩: ∃O,s[A]=O:=⟨_,rfl⟩
          rw[Od ek hc'] at k;have hbz':(A:Int) <(s.size:Int):=by omega
          have t6:decide ((s.size:Int)<=(A:Int))=false:=decide_eq_false (by omega);by_cases l:O=41
          · subst l
            rw[if_pos rfl] at k;have HR:=hdq k;clear k;go_wp2_with fail;refine(Sw (w.heap.size+1) _ _ _ 2 [t,t'] (by intro h;cases h) (xb.two (g:=D.heap.size+1) (e:=25) hF2 xk (by simp;omega) (by simp)) (by simp;omega) (by simp)).mono ?_;rintro e w3 ⟨v,rfl,hN,e3⟩;obtain⟨k3,n3,A3,l3,c3,rfl⟩:=hN.three;obtain⟨z0,z1,z2,g0,g1,g2⟩:=own3 (e3.blk (((xr _).alloc _).blk z));have hx3:=hx2.trans (((xr _).alloc _).trans e3);clear o p n x0 x1 x2;go_wp2_with fail;refine aP (v:= .tuple #[M0 k3 n3 A3 l3 c3,m0 ((A:Int)+1)]) (by simp[aR,results194,go_sem,z0,z1,z2]) rfl ⟨_,_,_,rfl,(((hN.set (by simp) _).set (by simp) _).set (by simp) _).since (by omega),((hx3.setCell (by simp) _).setCell (by simp) _).setCell (by simp) _, ?_, ?_⟩
            · intro x hx
              rw[HR.out] at hx;cases hx
              exact⟨rfl,by simp,by show A+1<=s.size;omega⟩
            · intro hx
              rw[HR.out] at hx;cases hx
          · rw[if_neg (by intro h;cases h;exact l rfl)] at k
            have HR:=hdq k;have t7:((O.toNat:Int) !=41)=true:=by rw[bne_iff_ne];intro h;exact l (UInt8.toNat_inj.1 (by simp;omega))
            have t8:((O.toNat:Int)==41)=false:=by rw[beq_eq_false_iff_ne];intro h;exact l (UInt8.toNat_inj.1 (by simp;omega))
            clear k l;go_wp2_with fail;exact aP (v:= .tuple #[M0 0 0 none 0 0,m0 (-1)]) (by simp[aR,results194,go_sem,o,p,n]) rfl ⟨.mk 0 0 [],_,-1,rfl,Y1.leaf _ _ _ _,((hx2.setCell (by simp) _).setCell (by simp) _).setCell (by simp) _,(fun x hx=> by rw[HR.out] at hx;cases hx),fun _=> rfl⟩
        · rw[Bn s (by omega),if_neg (by simp)] at k
          have HR:=hdq k;have t6:decide ((s.size:Int)<=(A:Int))=true:=decide_eq_true (by omega);clear k;go_wp2_with fail;exact aP (v:= .tuple #[M0 0 0 none 0 0,m0 (-1)]) (by simp[aR,results194,go_sem,o,p,n]) rfl ⟨.mk 0 0 [],_,-1,rfl,Y1.leaf _ _ _ _,((hx2.setCell (by simp) _).setCell (by simp) _).setCell (by simp) _,(fun x hx=> by rw[HR.out] at hx;cases hx),fun _=> rfl⟩)
  · rw[Bn s (by omega),if_pos (by rfl)] at i
    have HR:=hdq i;have t0:decide ((b:Int) < 0)=false:=decide_eq_false (by omega);have t1:decide ((s.size:Int)<=(b:Int))=true:=decide_eq_true (by omega);obtain⟨o,p,n,f0,f1,f2⟩:=own3 q;clear i Q my;go_wp2_with fail;exact aP (v:= .tuple #[M0 0 0 none 0 0,m0 (-1)]) (by simp[aR,results194,go_sem,o,p,n]) rfl ⟨.mk 0 0 [],_,-1,rfl,Y1.leaf _ _ _ _,((hx1.setCell (by simp) _).setCell (by simp) _).setCell (by simp) _,(fun x hx=> by rw[HR.out] at hx;cases hx),fun _=> rfl⟩
