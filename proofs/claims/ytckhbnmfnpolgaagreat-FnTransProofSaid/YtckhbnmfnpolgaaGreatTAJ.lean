/- Lemmas towards the law. -/
import Derived.Test.YtckhbnmfnpolgaaGreatTAI
import Derived.Laws.Strings2
open Go renaming World->aN,Calls->aY,wp_loop_rounds->eT,rounds_succ->dS,Value->aU,TypeId->bU,heap_alloc_new->aT,bodyPost_ret->aQ,results->aS
open Array renaming length_toList->kN
open List renaming drop_eq_getElem_cons->cP,take_succ_cons->lN,eq_nil_of_length_eq_zero->bW,getElem?_map->jX,getElem?_eq_getElem->cR,map_toArray->gW
open Nat renaming le_refl->aP
open Bool renaming and_eq_true->aX,true_and->bV
open Go.Value renaming int->fN
open Go.World renaming size_alloc->eQ
open Go.Proofs.Tryz
set_option linter.all false
set_option maxHeartbeats 2000000
set_option maxRecDepth 100000
namespace Go.Proofs.YtckhbnmfnpolgaaGreat
open Go.RowKit
theorem Ji{c:UInt8}(h:eg c=true):48<=c.toNat/\c.toNat<=57:=by
 unfold eg at h;simp[UInt8.le_iff_toNat_le] at h
 exact h
theorem Uy{c:UInt8}(h:eg c=false):c.toNat < 48\/57 < c.toNat:=by
 unfold eg at h;simp[UInt8.le_iff_toNat_le] at h
 omega
theorem bj(w:aN):aY prog 197 #[.string (N6 [])] w fun e a=> e= .returned (.tuple #[j0 0,.bool false])/\w=a:=by
 have hs:N6 []=({data:=#[]}:ByteArray):=rfl;rw[hs];clear hs;go_enter func197,ntmps197;go_wp2_with fail;go_ret2;exact⟨rfl,rfl⟩
theorem WC(w:aN)(c:UInt8)(hd:eg c=true):aY prog 197 #[.string (N6 [c])] w fun e d=> e= .returned (.tuple #[j0 ((c.toNat:Int) - 48),.bool true])/\w=d:=by
 have hs:N6 [c]=({data:=#[c]}:ByteArray):=rfl;obtain⟨f,b⟩:=Ji hd;have i: ∀h,({data:=#[c]}:ByteArray)[0]'h=c:=fun _=> rfl
 obtain⟨m,hm⟩: ∃m,c.toNat=m:=⟨_,rfl⟩;rw[hs];rw[hm] at f b⊢;have t1:((m:Int)==45)=false:=by rw[beq_eq_false_iff_ne];omega
 have t2:decide ((m:Int) < 48)=false:=decide_eq_false (by omega);have g:decide ((57:Int) <(m:Int))=false:=decide_eq_false (by omega);clear hs hd;obtain⟨a,j⟩: ∃a,((m:Int)==48)=a:=⟨_,rfl⟩;cases a
 all_goals
  go_enter func197,ntmps197;go_wp2_with fail;refine eT 2 ?_;rw[dS];go_wp2_with fail;rw[dS];go_wp2_with fail;go_ret2;exact⟨by simp,rfl⟩
theorem sK(w:aN)(c d:UInt8)(hd:eg c=true)(b:eg d=true)(f:c≠48):aY prog 197 #[.string (N6 [c,d])] w fun e k=> e= .returned (.tuple #[j0 (((c.toNat:Int) - 48)*10+((d.toNat:Int) - 48)),.bool true])/\w=k:=by
 have hs:N6 [c,d]=({data:=#[c,d]}:ByteArray):=rfl;obtain⟨n,l⟩:=Ji hd;obtain⟨i,g⟩:=Ji b;have t: ∀h,({data:=#[c,d]}:ByteArray)[0]'h=c:=fun _=> rfl
 have o: ∀h,({data:=#[c,d]}:ByteArray)[1]'h=d:=fun _=> rfl
 have a:c.toNat≠48:=fun h=> f (UInt8.toNat_inj.1 h)
 obtain⟨m,hm⟩: ∃m,c.toNat=m:=⟨_,rfl⟩;obtain⟨p,j⟩: ∃p,d.toNat=p:=⟨_,rfl⟩;rw[hs];rw[hm] at n l a⊢;rw[j] at i g⊢;have t1:((m:Int)==45)=false:=by rw[beq_eq_false_iff_ne];omega
 have t2:decide ((m:Int) < 48)=false:=decide_eq_false (by omega);have u:decide ((57:Int) <(m:Int))=false:=decide_eq_false (by omega);have r:((m:Int)==48)=false:=by rw[beq_eq_false_iff_ne];omega
 have q:decide ((p:Int) < 48)=false:=decide_eq_false (by omega);have s:decide ((57:Int) <(p:Int))=false:=decide_eq_false (by omega);clear hs hd b f a;go_enter func197,ntmps197;go_wp2_with fail;refine eT 3 ?_;rw[dS];go_wp2_with fail;rw[dS];go_wp2_with fail;rw[dS];go_wp2_with fail;go_ret2;exact⟨by simp,rfl⟩
theorem RC(w:aN)(d:UInt8):aY prog 197 #[.string (N6 [48,d])] w fun e a=> e= .returned (.tuple #[j0 0,.bool false])/\w=a:=by
 have hs:N6 [48,d]=({data:=#[48,d]}:ByteArray):=rfl;have b: ∀h,({data:=#[48,d]}:ByteArray)[0]'h=48:=fun _=> rfl
 rw[hs];clear hs;go_enter func197,ntmps197;go_wp2_with fail;go_ret2;exact⟨rfl,rfl⟩
theorem Oz(s:ByteArray)(a b:Nat):s.extract a b=N6 ((s.data.toList.drop a).take (b - a)):=by
 apply ByteArray.ext
 apply Array.toList_inj.1
 simp[N6,ByteArray.data_extract,Array.toList_extract,List.extract]
theorem Uq(s:ByteArray){a:Nat}(h:a < s.size):s.data.toList[a]? =some s[a]:=by
 rw[Array.getElem?_toList,Array.getElem?_eq_getElem (by exact h)]
 rfl
theorem Vp(s:ByteArray){a:Nat}(h:s.size<=a):s.data.toList[a]? =none:=by
 rw[Array.getElem?_toList,Array.getElem?_eq_none (by exact h)]
theorem po(s:ByteArray)(a:Nat):s.extract a a=N6 []:=by rw[Oz];simp
theorem pC(s:ByteArray){a:Nat}(h:a < s.size):s.extract a (a+1)=N6 [s[a]]:=by
 rw[Oz];have hl:a < s.data.toList.length:=by rw[kN];exact h
 rw[cP hl,show a+1 - a=0+1 by omega,lN,List.take_zero]
 rfl
theorem mo(s:ByteArray){a:Nat}(h:a < s.size)(b:a+1 < s.size):s.extract a (a+2)=N6 [s[a],s[a+1]]:=by
 rw[Oz];have hl:a < s.data.toList.length:=by rw[kN];exact h
 have c:a+1 < s.data.toList.length:=by rw[kN];exact b
 rw[cP hl,cP c,show a+2 - a=0+1+1 by omega,lN,lN,List.take_zero]
 rfl
theorem Ww{s:ByteArray}{a e:Nat}{j:Int}{x:ByteArray}(h:a<=e)(c:e<=s.size)(b:j=e)(hx:s.extract a e=x)(w:aN):(Instr.slice 9 (.string s) (some (j0 a)) (some (j0 j)) none).run prog w= .ok (.string x) w:=by
 subst b;have:=run_slice_string (P:=prog) w 9 s .i64 .i64 (a:Int) (e:Int) underlying9 (by omega) (by omega) (by omega);rw[this,<-hx]
 rfl
def gc:Option (Int×Nat)->Int×Int
 |some (x,b)=>(x,b)
 |none=>(0,-1)
theorem FJ(s:ByteArray)(a:Nat)(w:aN)(hs:s.size<=1000000000)(T:a<=s.size):aY prog 192 #[.string s,j0 a,j0 2] w fun e L=> e= .returned (.tuple #[j0 (gc (Y8 s.data.toList a true)).1,j0 (gc (Y8 s.data.toList a true)).2])/\w=L:=by
 obtain⟨R,b⟩: ∃R,R=gc (Y8 s.data.toList a true):=⟨_,rfl⟩;rw[<-b];by_cases E:a < s.size
 · obtain⟨c,hc⟩: ∃c,s[a]=c:=⟨_,rfl⟩
   have hl:=Uq s E;rw[hc] at hl;by_cases hd:eg c=true
   · obtain⟨I,H⟩:=Ji hd
     have A:=pC s E;rw[hc] at A;have hx1:=Ww (j:=(a:Int)+1) (Nat.le_succ a) (by omega) rfl A;have S:=hdq A;clear A;obtain⟨m,hm⟩: ∃m,c.toNat=m:=⟨_,rfl⟩;have l:=hdq (fun W=> WC W c hd);rw[hm] at I H l;have t1:decide ((48:Int)<=(m:Int))=true:=decide_eq_true (by omega);have t2:decide ((m:Int)<=57)=true:=decide_eq_true (by omega);have n:R=gc (some ((m:Int) - 48,a+1))->R=((m:Int) - 48,(a:Int)+1):=fun h=> by rw[h];simp[gc]
     by_cases G:a+1 < s.size
     · obtain⟨d,o⟩: ∃d,s[a+1]=d:=⟨_,rfl⟩
       have k:=Uq s G;rw[o] at k;have K:decide ((a:Int)+1 <(s.size:Int))=true:=decide_eq_true (by omega);have J:decide ((a:Int)+1 <(a:Int)+2)=true:=decide_eq_true (by omega);by_cases g:eg d=true
       · obtain⟨P,V⟩:=Ji g
         have u:=mo s E G;rw[hc,o] at u;have hx2:=Ww (j:=(a:Int)+1+1) (show a<=a+2 by omega) (by omega) (by omega) u;obtain⟨p,v⟩: ∃p,d.toNat=p:=⟨_,rfl⟩;have t:decide ((48:Int)<=(p:Int))=true:=decide_eq_true (by omega);have N:decide ((p:Int)<=57)=true:=decide_eq_true (by omega);have U:decide ((a:Int)+1+1 <(a:Int)+2)=false:=decide_eq_false (by omega);obtain⟨z,M⟩: ∃z,decide ((a:Int)+1+1 <(s.size:Int))=z:=⟨_,rfl⟩;by_cases x:c=48
         · subst x
           have y:=hdq (fun W=> RC W d);have f:R=(0,-1):=by rw[b];unfold Y8;rw[hl];simp only[hd,k,g];rfl
           have HR:=hdq f;clear b f hd hl n k g u l hx1;cases z
           all_goals
            go_enter func192,ntmps192;go_wp2_with fail;refine eT 3 ?_;rw[dS];go_wp2_with fail;rw[dS];go_wp2_with fail;rw[dS];go_wp2_with fail;refine(y.out _).mono ?_;rintro e i ⟨rfl,rfl⟩;go_wp2_with fail;go_ret2;exact⟨by rw[HR.out];rfl,rfl⟩
         · have y:=hdq (fun W=> sK W c d hd g x)
           rw[hm,v] at y;have f:R=(((m:Int) - 48)*10+((p:Int) - 48),(a:Int)+2):=by rw[b];unfold Y8;rw[hl];simp only[hd,k,g,x];rw[hm,v];simp[gc]
           have HR:=hdq f;have O:=hdq (show(a:Int)+1+1=a+2 by omega);clear b f hd hl n k g u l hx1 x;cases z
           all_goals
            go_enter func192,ntmps192;go_wp2_with fail;refine eT 3 ?_;rw[dS];go_wp2_with fail;rw[dS];go_wp2_with fail;rw[dS];go_wp2_with fail;refine(y.out _).mono ?_;rintro e i ⟨rfl,rfl⟩;go_wp2_with fail;go_ret2;exact⟨by rw[HR.out,<-O.out];rfl,rfl⟩
       · have D:eg d=false:=by simpa using g
         obtain⟨p,v⟩: ∃p,d.toNat=p:=⟨_,rfl⟩;have hn:=Uy D;rw[v] at hn;have f:R=((m:Int) - 48,(a:Int)+1):=n (by rw[b];unfold Y8;rw[hl];simp only[hd,k,D];rw[hm];rfl);have HR:=hdq f;clear b f hd hl n k g D;obtain⟨t,q⟩: ∃t,decide ((48:Int)<=(p:Int))=t:=⟨_,rfl⟩;have C:t=true->decide ((p:Int)<=57)=false:=fun h=> by rw[h] at q;have:=of_decide_eq_true q;exact decide_eq_false (by omega)
         cases t
         · clear C
           go_enter func192,ntmps192;go_wp2_with fail;refine eT 2 ?_;rw[dS];go_wp2_with fail;rw[dS];go_wp2_with fail;refine(l.out _).mono ?_;rintro e i ⟨rfl,rfl⟩;go_wp2_with fail;go_ret2;exact⟨by rw[HR.out];rfl,rfl⟩
         · have N:=C rfl
           clear C;go_enter func192,ntmps192;go_wp2_with fail;refine eT 2 ?_;rw[dS];go_wp2_with fail;rw[dS];go_wp2_with fail;refine(l.out _).mono ?_;rintro e i ⟨rfl,rfl⟩;go_wp2_with fail;go_ret2;exact⟨by rw[HR.out];rfl,rfl⟩
     · have f:R=((m:Int) - 48,(a:Int)+1):=n (by rw[b];unfold Y8;rw[hl];simp only[hd,Vp s (show s.size<=a+1 by omega)];rw[hm];rfl)
       have HR:=hdq f;have K:decide ((a:Int)+1 <(s.size:Int))=false:=decide_eq_false (by omega);have J:decide ((a:Int) <(a:Int)+2)=true:=decide_eq_true (by omega);clear b f hd hl n;go_enter func192,ntmps192;go_wp2_with fail;refine eT 2 ?_;rw[dS];go_wp2_with fail;rw[dS];go_wp2_with fail;refine(l.out _).mono ?_;rintro e i ⟨rfl,rfl⟩;go_wp2_with fail;go_ret2;exact⟨by rw[HR.out];rfl,rfl⟩
   · have F:eg c=false:=by simpa using hd
     have B:=Ww (j:=(a:Int)) (aP a) (by omega) rfl (po s a);have r:R=(0,-1):=by
      rw[b];unfold Y8;rw[hl];simp only[F]
      rfl
     obtain⟨m,hm⟩: ∃m,c.toNat=m:=⟨_,rfl⟩;have hn:=Uy F;rw[hm] at hn;have HR:=hdq r;clear b r hd F hl;by_cases Q:m < 48
     · have t1:decide ((48:Int)<=(m:Int))=false:=decide_eq_false (by omega)
       go_enter func192,ntmps192;go_wp2_with fail;refine eT 1 ?_;rw[dS];go_wp2_with fail;refine(bj _).mono ?_;rintro e i ⟨rfl,rfl⟩;go_wp2_with fail;go_ret2;exact⟨by rw[HR.out];rfl,rfl⟩
     · have t1:decide ((48:Int)<=(m:Int))=true:=decide_eq_true (by omega)
       have t2:decide ((m:Int)<=57)=false:=decide_eq_false (by omega);go_enter func192,ntmps192;go_wp2_with fail;refine eT 1 ?_;rw[dS];go_wp2_with fail;refine(bj _).mono ?_;rintro e i ⟨rfl,rfl⟩;go_wp2_with fail;go_ret2;exact⟨by rw[HR.out];rfl,rfl⟩
 · have r:R=(0,-1):=by
    rw[b];unfold Y8;rw[Vp s (by omega)]
    rfl
   have B:=Ww (j:=(a:Int)) (aP a) (by omega) rfl (po s a);have t0:decide ((a:Int) <(s.size:Int))=false:=decide_eq_false (by omega);have HR:=hdq r;clear b r;go_enter func192,ntmps192;go_wp2_with fail;refine eT 1 ?_;rw[dS];go_wp2_with fail;refine(bj _).mono ?_;rintro e i ⟨rfl,rfl⟩;go_wp2_with fail;go_ret2;exact⟨by rw[HR.out];rfl,rfl⟩
theorem kI(s:ByteArray)(a:Nat)(w:aN)(hs:s.size<=1000000000)(z:a<=s.size):aY prog 192 #[.string s,j0 a,j0 1] w fun e u=> e= .returned (.tuple #[j0 (gc (Y8 s.data.toList a false)).1,j0 (gc (Y8 s.data.toList a false)).2])/\w=u:=by
 obtain⟨R,b⟩: ∃R,R=gc (Y8 s.data.toList a false):=⟨_,rfl⟩;rw[<-b];by_cases p:a < s.size
 · obtain⟨c,hc⟩: ∃c,s[a]=c:=⟨_,rfl⟩
   have hl:=Uq s p;rw[hc] at hl;by_cases hd:eg c=true
   · obtain⟨r,q⟩:=Ji hd
     have g:=pC s p;rw[hc] at g;have hx1:=Ww (j:=(a:Int)+1) (Nat.le_succ a) (by omega) rfl g;have y:=hdq g;clear g;obtain⟨m,hm⟩: ∃m,c.toNat=m:=⟨_,rfl⟩;have k:=hdq (fun W=> WC W c hd);rw[hm] at r q k;have t1:decide ((48:Int)<=(m:Int))=true:=decide_eq_true (by omega);have t2:decide ((m:Int)<=57)=true:=decide_eq_true (by omega);have o:R=gc (some ((m:Int) - 48,a+1))->R=((m:Int) - 48,(a:Int)+1):=fun h=> by rw[h];simp[gc]
     have n:R=((m:Int) - 48,(a:Int)+1):=o (by rw[b];unfold Y8;rw[hl];simp only[hd];rw[hm];rfl);have HR:=hdq n;have A:decide ((a:Int)+1 <(a:Int)+1)=false:=decide_eq_false (by omega);clear b n hd hl o;have v:s.size=a+1\/a+1 < s.size:=by omega
     go_enter func192,ntmps192;go_wp2_with fail;refine eT 2 ?_;rw[dS];go_wp2_with fail;rw[dS];rcases v with h|h
     · have t:decide ((a:Int)+1 <(s.size:Int))=false:=decide_eq_false (by omega)
       go_wp2_with fail;refine(k.out _).mono ?_;rintro e f ⟨rfl,rfl⟩;go_wp2_with fail;go_ret2;exact⟨by rw[HR.out];rfl,rfl⟩
     · have t:decide ((a:Int)+1 <(s.size:Int))=true:=decide_eq_true (by omega)
       go_wp2_with fail;refine(k.out _).mono ?_;rintro e f ⟨rfl,rfl⟩;go_wp2_with fail;go_ret2;exact⟨by rw[HR.out];rfl,rfl⟩
   · have l:eg c=false:=by simpa using hd
     have i:=Ww (j:=(a:Int)) (aP a) (by omega) rfl (po s a);have d:R=(0,-1):=by
      rw[b];unfold Y8;rw[hl];simp only[l]
      rfl
     obtain⟨m,hm⟩: ∃m,c.toNat=m:=⟨_,rfl⟩;have hn:=Uy l;rw[hm] at hn;have HR:=hdq d;clear b d hd l hl;by_cases x:m < 48
     · have t1:decide ((48:Int)<=(m:Int))=false:=decide_eq_false (by omega)
       go_enter func192,ntmps192;go_wp2_with fail;refine eT 1 ?_;rw[dS];go_wp2_with fail;refine(bj _).mono ?_;rintro e f ⟨rfl,rfl⟩;go_wp2_with fail;go_ret2;exact⟨by rw[HR.out];rfl,rfl⟩
     · have t1:decide ((48:Int)<=(m:Int))=true:=decide_eq_true (by omega)
       have t2:decide ((m:Int)<=57)=false:=decide_eq_false (by omega);go_enter func192,ntmps192;go_wp2_with fail;refine eT 1 ?_;rw[dS];go_wp2_with fail;refine(bj _).mono ?_;rintro e f ⟨rfl,rfl⟩;go_wp2_with fail;go_ret2;exact⟨by rw[HR.out];rfl,rfl⟩
 · have d:R=(0,-1):=by
    rw[b];unfold Y8;rw[Vp s (by omega)]
    rfl
   have i:=Ww (j:=(a:Int)) (aP a) (by omega) rfl (po s a);have t0:decide ((a:Int) <(s.size:Int))=false:=decide_eq_false (by omega);have HR:=hdq d;clear b d;go_enter func192,ntmps192;go_wp2_with fail;refine eT 1 ?_;rw[dS];go_wp2_with fail;refine(bj _).mono ?_;rintro e f ⟨rfl,rfl⟩;go_wp2_with fail;go_ret2;exact⟨by rw[HR.out];rfl,rfl⟩
def D2:Tr:= .mk 0 0 []
mutual
def shfT(y:Int):Tr->Int->Tr
 | .mk k n a,c=> .mk k (if k=1/\c<=n then n+y else n) (i9 y k a 0 c)
def i9(y:Int):Int->List Tr->Nat->Int->List Tr
 |_, [],_,_=> []
 |k,t::ts,i,c=> shfT y t (c+T4 k i)::i9 y k ts (i+1) c
end
mutual
def X0(u:Tr):Tr->Int->Int->Tr
 | .mk k n a,x,d=> if k=1/\n=x then shfT d u 0 else .mk k (if k=1/\x < n then n - 1 else n) (R9 u k a 0 x d)
def R9(u:Tr):Int->List Tr->Nat->Int->Int->List Tr
 |_, [],_,_,_=> []
 |k,t::ts,i,x,d=> X0 u t (x+T4 k i) (d+T4 k i)::R9 u k ts (i+1) x d
end
mutual
def Y9(g:Int->Int->Tr):Tr->Int->Tr
 | .mk k n a,b=> if k=1 then g n b else .mk k n (Ii g k a 0 b)
def Ii(g:Int->Int->Tr):Int->List Tr->Nat->Int->List Tr
 |_, [],_,_=> []
 |k,t::ts,i,b=> Y9 g t (b+T4 k i)::Ii g k ts (i+1) b
end
mutual
def k9(h:Int->Int->Bool):Tr->Int->Bool
 | .mk k n a,b=> if k=1 then h n b else Zd h k a 0 b
def Zd(h:Int->Int->Bool):Int->List Tr->Nat->Int->Bool
 |_, [],_,_=> true
 |k,t::ts,i,b=> k9 h t (b+T4 k i)&& Zd h k ts (i+1) b
end
theorem EA(y:Int): ∀(k:Int) (ts:List Tr) (i:Nat) (c:Int),(i9 y k ts i c).length=ts.length
 |_, [],_,_=> rfl
 |k,t::ts,i,c=> by simp[i9,EA y k ts (i+1) c]
theorem NF(u:Tr): ∀(k:Int) (ts:List Tr) (i:Nat) (x d:Int),(R9 u k ts i x d).length=ts.length
 |_, [],_,_,_=> rfl
 |k,t::ts,i,x,d=> by simp[R9,NF u k ts (i+1) x d]
mutual
theorem uB(y:Int): ∀(t:Tr) (c:Int),cnt (shfT y t c)=cnt t
 | .mk k n a,c=> by
  unfold shfT;simp only[cnt,UD y k a 0 c]
theorem UD(y:Int): ∀(k:Int) (ts:List Tr) (i:Nat) (c:Int),O1 (i9 y k ts i c)=O1 ts
 |_, [],_,_=> rfl
 |k,t::ts,i,c=> by
  unfold i9;simp only[O1,uB y t _,UD y k ts (i+1) c]
end
mutual
theorem Qz{g:Ud}: ∀{t:Tr} {d e:Int},I0 g t d=true->d<=e->I0 g t e=true
 | .mk k n a,d,e,h,hd=> by
  simp only[I0,aX,decide_eq_true_eq] at h⊢;exact⟨by omega,h.2.1,OE h.2.2 (by omega)⟩
theorem OE{g:Ud}: ∀{ts:List Tr} {d e:Int},ma g ts d=true->d<=e->ma g ts e=true
 | [],_,_,_,_=> rfl
 |t::ts,d,e,h,hd=> by
  simp only[ma,aX] at h⊢;exact⟨Qz h.1 hd,OE h.2 hd⟩
end
theorem qC{n:Int}{a:List Tr}{d:Int}(h:I0 sigT (.mk 1 n a) d=true):a= []/\0<=n/\n<=20:=by
 obtain⟨b,c,e,-⟩:=m6 h;have f:=Tj 1;have:(0:Int)=(a.length:Int):=b;exact⟨bW (by omega),c,by omega⟩
def nm(y c:Int)(n b:Int):Tr:= .mk 1 (if c<=n - b then n+y else n) []
def hsh(y c:Int)(n b:Int):Bool:=if c<=n - b then decide (c<=n+y - b)&& decide (n+y<=20) else true
mutual
theorem yF(y c:Int): ∀(t:Tr) (b d:Int),I0 sigT t d=true->Y9 (nm y c) t b=shfT y t (c+b)
 | .mk k n e,b,d,h=> by
  unfold Y9 shfT;by_cases hk:k=1
  · subst hk
    obtain⟨rfl,-,-⟩:=qC h;rw[if_pos rfl];unfold nm;by_cases a:c<=n - b
    · rw[if_pos a,if_pos ⟨rfl,by omega⟩];rfl
    · rw[if_neg a,if_neg (by omega)];rfl
  · rw[if_neg hk,if_neg (fun h=> hk h.1),AE y c k e 0 b (d - 1) (m6 h).2.2.2]
theorem AE(y c:Int): ∀(k:Int) (ts:List Tr) (i:Nat) (b d:Int),(∀t∈ts,I0 sigT t d=true)->Ii (nm y c) k ts i b=i9 y k ts i (c+b)
 |_, [],_,_,_,_=> rfl
 |k,t::ts,i,b,d,h=> by
  unfold Ii i9;rw[yF y c t _ d (h t (by simp)),AE y c k ts (i+1) b d (fun t ht=> h t (by simp[ht])),Int.add_assoc]
end
theorem fG{g:Ud}{k n:Int}{a b:Nat}(h:a=b):Nj g k n a=Nj g k n b:=by rw[h]
mutual
theorem cB(y c:Int)(g:0<=y): ∀(t:Tr) (b d:Int),I0 sigT t d=true->k9 (hsh y c) t b=I0 sigT (shfT y t (c+b)) d
 | .mk k n f,b,d,h=> by
  have a:=h;simp only[I0,aX] at a;unfold k9 shfT;by_cases hk:k=1
  · subst hk
    obtain⟨rfl,i,j⟩:=qC h;have hd:=of_decide_eq_true a.1;rw[if_pos rfl];have hs: ∀x:Int,0<=x->I0 sigT (.mk 1 x []) d=decide (x<=20):=fun x hx=> by
     simp only[I0,ma,Nj,List.length_nil,Bool.and_true];rw[decide_eq_true hd,decide_eq_true (show sigT.ops 1=((0:Nat):Int) from rfl),bV,bV]
     show ac x 0 20=_
     unfold ac;rw[decide_eq_true hx,bV]
    unfold hsh;by_cases e:c<=n - b
    · rw[if_pos e,if_pos ⟨rfl,by omega⟩,show i9 y 1 [] 0 (c+b)= [] from rfl,hs _ (by omega),decide_eq_true (by omega),bV]
    · rw[if_neg e,if_neg (by omega),show i9 y 1 [] 0 (c+b)= [] from rfl,hs _ i,decide_eq_true j]
  · rw[if_neg hk,if_neg (fun h=> hk h.1),iC y c g k f 0 b (d - 1) a.2.2]
    simp only[I0];rw[a.1,fG (EA y k f 0 (c+b)),a.2.1]
    rfl
theorem iC(y c:Int)(a:0<=y): ∀(k:Int) (ts:List Tr) (i:Nat) (b d:Int),ma sigT ts d=true->Zd (hsh y c) k ts i b=ma sigT (i9 y k ts i (c+b)) d
 |_, [],_,_,_,_=> rfl
 |k,t::ts,i,b,d,h=> by
  simp only[ma,aX] at h;unfold Zd i9;simp only[ma];rw[cB y c a t _ d h.1,iC y c a k ts (i+1) b d h.2,Int.add_assoc]
end
theorem rH{y c:Int}(e:0<=y){t:Tr}(h:valid sigT t=true):(k9 (hsh y c) t 0 && valid sigT (Y9 (nm y c) t 0))=valid sigT (shfT y t c)/\Y9 (nm y c) t 0=shfT y t c:=by
 obtain⟨d,f⟩:=N4 h;have a:=yF y c t 0 30 d;have b:=cB y c e t 0 30 d;rw[Int.add_zero] at a b;refine⟨?_,a⟩;rw[a,b];unfold valid;cases I0 sigT (shfT y t c) 30 <;> simp
def Bm(u:Tr)(x:Int)(n b:Int):Tr:=if n - b=x then(if valid sigT (shfT b u 0)=true then shfT b u 0 else D2) else .mk 1 (if x < n - b then n - 1 else n) []
def Zg(u:Tr)(x:Int)(n b:Int):Bool:=if n - b=x then valid sigT (shfT b u 0) else true
mutual
theorem KB(u:Tr)(x:Int): ∀(t:Tr) (b d:Int),I0 sigT t d=true->k9 (Zg u x) t b=true->Y9 (Bm u x) t b=X0 u t (x+b) b
 | .mk k n f,b,d,h,a=> by
  unfold k9 at a;unfold Y9 X0;by_cases hk:k=1
  · subst hk
    obtain⟨rfl,-,-⟩:=qC h;rw[if_pos rfl] at a⊢;unfold Zg at a;unfold Bm;by_cases c:n - b=x
    · rw[if_pos c] at a⊢
      rw[if_pos a,if_pos (show(1:Int)=1/\n=x+b from⟨rfl,by omega⟩)]
    · rw[if_neg c,if_neg (show¬((1:Int)=1/\n=x+b) from by omega)]
      by_cases e:x < n - b
      · rw[if_pos e,if_pos (show(1:Int)=1/\x+b < n from⟨rfl,by omega⟩)];rfl
      · rw[if_neg e,if_neg (show¬((1:Int)=1/\x+b < n) from by omega)];rfl
  · rw[if_neg hk] at a⊢
    rw[if_neg (fun h=> hk h.1),if_neg (fun h=> hk h.1),mE u x k f 0 b (d - 1) (m6 h).2.2.2 a]
theorem mE(u:Tr)(x:Int): ∀(k:Int) (ts:List Tr) (i:Nat) (b d:Int),(∀t∈ts,I0 sigT t d=true)->Zd (Zg u x) k ts i b=true->Ii (Bm u x) k ts i b=R9 u k ts i (x+b) b
 |_, [],_,_,_,_,_=> rfl
 |k,t::ts,i,b,d,h,a=> by
  unfold Zd at a;rw[aX] at a;unfold Ii R9;rw[KB u x t _ d (h t (by simp)) a.1,mE u x k ts (i+1) b d (fun t ht=> h t (by simp[ht])) a.2,Int.add_assoc]
end
mutual
theorem jE(u:Tr)(x:Int)(f:cnt u<=400): ∀(t:Tr) (b d:Int),I0 sigT t d=true->k9 (Zg u x) t b=false-> ∀e:Int,e<=30->I0 sigT (X0 u t (x+b) b) e=false
 | .mk k n j,b,d,h,a,e,i=> by
  unfold k9 at a;unfold X0;by_cases hk:k=1
  · subst hk
    rw[if_pos rfl] at a;unfold Zg at a;by_cases c:n - b=x
    · rw[if_pos c] at a
      rw[if_pos (show(1:Int)=1/\n=x+b from⟨rfl,by omega⟩),Bool.eq_false_iff];intro hs;have g:=Qz hs i;unfold valid at a;rw[g,uB,decide_eq_true f] at a;cases a
    · rw[if_neg c] at a
      cases a
  · rw[if_neg hk] at a
    rw[if_neg (fun h=> hk h.1)];simp only[I0];rw[PB u x f k j 0 b (d - 1) (m6 h).2.2.2 a (e - 1) (by omega)];simp
theorem PB(u:Tr)(x:Int)(c:cnt u<=400): ∀(k:Int) (ts:List Tr) (i:Nat) (b d:Int),(∀t∈ts,I0 sigT t d=true)->Zd (Zg u x) k ts i b=false-> ∀e:Int,e<=30->ma sigT (R9 u k ts i (x+b) b) e=false
 |_, [],_,_,_,_,a,_,_=> by unfold Zd at a;cases a
 |k,t::ts,i,b,d,h,a,e,f=> by
  unfold Zd at a;unfold R9;simp only[ma];rw[Bool.and_eq_false_iff] at a⊢;rw[Int.add_assoc];rcases a with a|a
  · exact .inl (jE u x c t _ d (h t (by simp)) a e f)
  · exact .inr (PB u x c k ts (i+1) b d (fun t ht=> h t (by simp[ht])) a e f)
end
theorem VJ{u:Tr}{x:Int}(e:cnt u<=400){t:Tr}(h:valid sigT t=true):(k9 (Zg u x) t 0 && valid sigT (Y9 (Bm u x) t 0))=valid sigT (X0 u t x 0)/\(k9 (Zg u x) t 0=true->Y9 (Bm u x) t 0=X0 u t x 0):=by
 obtain⟨c,f⟩:=N4 h;have a:=KB u x t 0 30 c;have d:=jE u x e t 0 30 c;rw[Int.add_zero] at a d;refine⟨?_,a⟩;cases b:k9 (Zg u x) t 0 with
 |true=> rw[a b,bV]
 |false=>
  unfold valid;rw[d b 30 (Int.le_refl _)]
  rfl
def Pg(w:aN)(S:Nat->Prop)(u:aU)(p:List Int):Prop:=
 (u= .slice none 0 0/\p= [])\/ ∃b o c,u= .slice (some ⟨b,o,none⟩) p.length c/\p.length<=c/\c<=maxLen/\S b/\ ∀j (h:j < p.length),w.cell? ⟨b,o+j,none⟩=some (.int .i64 p[j])
theorem Pg.mono{w w':aN}{S S':Nat->Prop}{u:aU}{p:List Int}(hS: ∀b,S b->S' b)(f: ∀b,S b->w'.heap[b]? =w.heap[b]?)(h:Pg w S u p):Pg w' S' u p:=by
 rcases h with h|⟨b,o,c,rfl,k,i,d,g⟩
 · exact .inl h
 · exact .inr ⟨b,o,c,rfl,k,i,hS b d,fun j e=>(World.cell?_of_block (w:=w) (a:=⟨b,o+j,none⟩) (f b d)).trans (g j e)⟩
theorem dK{w:aN}{base:Nat}{e:bU}{v:aU}{p:List Int}(h:w.ownsRow base e 1 v p.length (p.map (fN .i64))):Pg w (fun b=> base<=b/\b < w.heap.size/\v.ownBlock=some b) v p:=by
 have m:=fun g a=> h.cells (g:=g) a
 rcases h.2 with⟨rfl,l⟩ |⟨g,c,f,rfl,i,a,hn,hm,k,ht⟩
 · exact .inl ⟨rfl,bW l⟩
 · refine .inr ⟨g,0,c,rfl,hn,hm,⟨i,D1 a,rfl⟩,fun j d=> ?_⟩
   have:=m g rfl j (j0 p[j]) (by rw[jX,cR d];rfl)
   rwa [Addr.add_lit] at this
theorem xH{P:Program}(w:aN){o:Oper}{a:Act}{K:Act->aN->Prop}{Q:Exit->Act->aN->Prop}(s x:Operand)(t:bU)
 (A:o.op= .call {callee:= .builtin .append,args:=#[s,x],argTypes:=#[t,t]})
 (base:Nat) (e:bU) (i:TypeInfo) (z:aU) (bytes:Nat) (ht:P.underlying t=some (.slice e)) (hi:P.info? e=some i) (B:i.zero=some z) (f:i.size=1) (q:i.bytes=bytes) (M:bytes<=64) (m:z.cells.size=1)
 {v u:aU} {ns p:List Int} {S:Nat->Prop} (hs:a.eval s=v) (hG:w.ownsRow base e 1 v ns.length (ns.map (fN .i64))) (H:base<=w.heap.size)
 (hx:a.eval x=u) (D:Pg w S u p) (hn:ns.length+p.length < 1099511627776)
 (h: ∀l k,k.ownsRow base e 1 l (ns++p).length ((ns++p).map (fN .i64))->w.grownBy k v.ownBlock->(∀g,l.ownBlock=some g->v.ownBlock=some g\/w.heap.size<=g)->K (a.put o.dst l) k):o.wp P a w K Q:=by
 rcases D with⟨rfl,rfl⟩ |⟨b,E,c,rfl,R,O,N,C⟩
 · have hr:=run_append_owned_none (P:=P) (w:=w) base t o.type e i 1 ht hi v ns.length _ hG
   unfold Oper.wp execOp;simp only[A,resolve,invoke,builtin,Sem.run_bind,Sem.run_pure,Result.andThen_ok,gW,List.map_cons,List.map_nil,hs,hx,hr];exact(h v w (by simpa using hG) ⟨rfl,rfl,rfl,aP _,fun _ _ _=> rfl⟩ (fun g J=> .inl J))
 · have L:(ns.length+p.length)*bytes<=140737488355328:=Nat.le_trans (Nat.mul_le_mul (show ns.length+p.length<=1099511627776 by omega) M) (by decide)
   obtain⟨l,k,hr,F,G,I⟩:=Oo (P:=P) w base t o.type e i z 1 bytes ht hi B f q m (by decide) v ns.length _ hG ⟨b,E,none⟩ p.length c (p.map (fN .i64)) (by simp)
    (fun j y d=> by
     rw[Addr.add_lit];rw[jX] at d;by_cases r:j < p.length
     · rw[cR r] at d
       rw[C j r];exact d
     · rw[List.getElem?_eq_none (by omega)] at d
       cases d)
    (fun y d=> by obtain⟨n,_,rfl⟩:=List.mem_map.1 d;rfl) (by unfold maxLen;omega) L H
   unfold Oper.wp execOp;simp only[A,resolve,invoke,builtin,Sem.run_bind,Sem.run_pure,Result.andThen_ok,gW,List.map_cons,List.map_nil,hs,hx,hr];exact(h l k (by simpa using F) G I)
theorem aA{P:Program}(w:aN){ops:Array Oper}{rest:List Oper}{o:Oper}{a:Act}{Q:Exit->Act->aN->Prop}(f:o.guard=none)(s x:Operand)(t:bU)
 (q:o.op= .call {callee:= .builtin .append,args:=#[s,x],argTypes:=#[t,t]})
 (base:Nat) (e:bU) (i:TypeInfo) (z:aU) (bytes:Nat) (ht:P.underlying t=some (.slice e)) (hi:P.info? e=some i) (m:i.zero=some z) (b:i.size=1) (k:i.bytes=bytes) (A:bytes<=64) (j:z.cells.size=1)
 {v u:aU} {ns p:List Int} {S:Nat->Prop} (hs:a.eval s=v) (hG:w.ownsRow base e 1 v ns.length (ns.map (fN .i64))) (y:base<=w.heap.size)
 (hx:a.eval x=u) (n:Pg w S u p) (hn:ns.length+p.length < 1099511627776)
 (h: ∀d c,c.ownsRow base e 1 d (ns++p).length ((ns++p).map (fN .i64))->w.grownBy c v.ownBlock->(∀g,d.ownBlock=some g->v.ownBlock=some g\/w.heap.size<=g)->wpList P ops Q rest (a.put o.dst d) c):wpList P ops Q (o::rest) a w:=
 wpList_plain f fun K hK=> xH w s x t q base e i z bytes ht hi m b k A j hs hG y hx n hn (fun d c B r l=> hK _ _ (h d c B r l))
def E2(B:Nat)(w:aN)(t:Tr)(v:aU):Prop:=InT w (fun b=> B<=b/\b < w.heap.size) t v
theorem E2.leaf(B:Nat)(w:aN)(k n:Int):E2 B w (.mk k n []) (m0 k n none 0 0):=InT.mk_iff.2 ⟨none,0,rfl,aP _,Nat.zero_le _,.inl rfl⟩
theorem E2.ext{B:Nat}{w c:aN}{t:Tr}{v:aU}(h:E2 B w t v)(d:Ext w c):E2 B c t v:=h.mono (fun b a=>⟨a.1,Nat.lt_of_lt_of_le a.2 d.size⟩) (fun b a=> d.heap b a.2)
theorem E2.since{B C:Nat}{w:aN}{t:Tr}{v:aU}(h:E2 B w t v)(hc:C<=B):E2 C w t v:=h.mono (fun b a=>⟨Nat.le_trans hc a.1,a.2⟩) (fun _ _=> rfl)
theorem E2.lies{B:Nat}{w:aN}{t:Tr}{v:aU}(h:E2 B w t v):Lies w t v:=h.mono (fun b a=> a.2) (fun _ _=> rfl)
theorem E2.three{B:Nat}{w:aN}{t:Tr}{u:aU}(h:E2 B w t u): ∃k n A l c,u= m0 k n A l c:=h.lies.three
theorem E2.set{B:Nat}{w:aN}{t:Tr}{v:aU}(h:E2 B w t v){p:Addr}(c:p.block < B)(u:aU):E2 B (w.setCell p u) t v:=
 h.mono (fun b a=>⟨a.1,by simpa using a.2⟩) (fun b a=> Below.heap_setCell w p u b (by omega))
theorem E2.made{w a:aN}{e:bU}{t:Tr}{v:aU}(h:W0 w a e t v):E2 w.heap.size a t v:=by
 obtain⟨L,h,hf⟩:=h;exact InT.mono (fun b c=> hf.2 b c) (fun _ _=> rfl) h.inT
def Tc(B:Nat)(w:aN)(A:Option Addr)(a:List Tr):Prop:=InK w (fun b=> B<=b/\b < w.heap.size) A a
theorem Tc.one{B g:Nat}{w:aN}{t:Tr}{v0 v1 v2:aU}{e:bU}(h:E2 B w t (.agg #[v0,v1,v2]))(b:B<=w.heap.size)(a:g=w.heap.size):Tc B (w.alloc (.cells #[v0,v1,v2] e)) (some ⟨g,0,none⟩) [t]:=
 a▸InK.one (h.ext ((xr w).alloc _)) (aT w _) ⟨b,by simp⟩
theorem Tc.two{B g:Nat}{w:aN}{t u:Tr}{v0 v1 v2 b d c:aU}{e:bU}(h:E2 B w t (.agg #[v0,v1,v2]))(f:E2 B w u (.agg #[b,d,c]))(k:B<=w.heap.size)(a:g=w.heap.size):Tc B (w.alloc (.cells #[v0,v1,v2,b,d,c] e)) (some ⟨g,0,none⟩) [t,u]:=by
 subst a;have hx:=(xr w).alloc (.cells #[v0,v1,v2,b,d,c] e);have a:=aT w (.cells #[v0,v1,v2,b,d,c] e);have j:=h.ext hx;have i:=f.ext hx;refine .inr ⟨w.heap.size,0,rfl,⟨k,by simp⟩, ?_⟩;unfold d5;refine⟨⟨v0,v1,v2,E1 a 0,E1 a 1,E1 a 2,j⟩, ?_⟩;unfold d5;refine⟨⟨b,d,c,E1 a 3,E1 a 4,E1 a 5,i⟩, ?_⟩;unfold d5
 trivial
theorem Nw(B:Nat)(w:aN)(k:Int)(A:Option Addr)(cap:Nat)(c:List Tr)(hA:A=none->cap=0)(hK:Tc B w A c)(j:B<=w.heap.size)(hn:c.length<=1099511627776):
 aY prog 60 #[j0 k,.slice A c.length cap] w fun e d=> ∃u,e= .returned u/\E2 B d (.mk k 0 c) u/\Ext w d:=
 (RF w k A cap c hA _ (fun b a=> a.2) hK hn).mono fun e d ⟨u,i,g,f⟩=>⟨u,i,g.mono (fun b a=> by
  have:=f.size;rcases a with a|a
  · exact⟨a.1,by omega⟩
  · exact⟨by omega,a.2⟩) (fun _ _=> rfl),f⟩
def Sb(B:Nat)(w:aN)(size:Nat)(o:Option (Tr×Nat))(e:Ending)(b:aN):Prop:=
 ∃(t:Tr) (u:aU) (a:Int),e= .returned (.tuple #[u,.int .i64 a])/\E2 B b t u/\Ext w b/\(∀x,o=some x->t=x.1/\a=x.2/\x.2<=size)/\(o=none->a= -1)
def Yd(d:Nat):Prop:= ∀(s:ByteArray) (a:Nat) (w:aN),s.size<=1000000000->a<=s.size+2->aY prog 176 #[.string s,.int .i64 a,.int .i64 d] w (Sb w.heap.size w s.size (b7 d s.data.toList a))
theorem EI(d:Nat)(ih:Yd d)(s:ByteArray)(a:Nat)(w:aN)(hs:s.size<=1000000000)(Q:a < s.size)(hc:s[a]=43)(hd:d<=30):
 aY prog 193 #[.string s,j0 a,j0 ((d:Int)+1)] w (Sb w.heap.size w s.size (one 8 (b7 d s.data.toList (a+1)))):=by
 have o:=hdq (fun W=> ih s (a+1) W hs (by omega));obtain⟨R,k⟩: ∃R,R=b7 d s.data.toList (a+1):=⟨_,rfl⟩;rw[<-k] at o⊢;clear k ih;go_enter func193,ntmps193;go_wp2_with fail;refine(o.out _).mono ?_;rintro e b ⟨t,u,p,rfl,hF,i,j,m⟩;obtain⟨O,n0,q,P,D,rfl⟩:=hF.three;have E:=i.newBlk;have A:=i.size_alloc;have F:=hdq j;have M:=hdq m;have n:=hF.ext ((xr b).alloc (D0 O n0 q P D));have c:=(xr w).alloc M0;simp only[eQ] at n;clear j m hF;go_wp2_with fail;refine(Nw (w.heap.size+1) _ 8 _ 1 [t] (by intro h;cases h) (Tc.one (g:=b.heap.size+1) (e:=25) n (by simp;omega) (by simp)) (by simp;omega) (by simp)).mono ?_;rintro e S ⟨v,rfl,hN,l⟩;obtain⟨K,C,G,H,r,rfl⟩:=hN.three;have f:=l.blk (((xr b).alloc _|>.alloc _).blk E);obtain⟨L,J,B,V,T,U⟩:=own3 f;have hx2:=(c.trans i).trans (((xr b).alloc _|>.alloc _).trans l);go_wp2_with fail;refine aQ (v:= .tuple #[m0 K C G H r,j0 p]) (by simp[aS,results193,go_sem,L,J,B]) rfl ⟨.mk 8 0 [t],_,p,rfl, ?_, ?_, ?_, ?_⟩
 · exact(((hN.set (by simp) _).set (by simp) _).set (by simp) _).since (by omega)
 · exact((hx2.setCell (by simp) _).setCell (by simp) _).setCell (by simp) _
 · intro x hx
   cases R with
   |none=> cases hx
   |some y=>
    obtain⟨N,I,z⟩:=F.out y rfl;cases hx
    exact⟨by rw[N],I,z⟩
 · intro hx
   cases R with
   |none=> exact M.out rfl
   |some y=> cases hx
theorem PG(d:Nat)(ih:Yd d)(s:ByteArray)(a:Nat)(w:aN)(hs:s.size<=1000000000)(Q:a < s.size)(hc:s[a]=33)(hd:d<=30):
 aY prog 193 #[.string s,j0 a,j0 ((d:Int)+1)] w (Sb w.heap.size w s.size (one 11 (b7 d s.data.toList (a+1)))):=by
 have o:=hdq (fun W=> ih s (a+1) W hs (by omega));obtain⟨R,k⟩: ∃R,R=b7 d s.data.toList (a+1):=⟨_,rfl⟩;rw[<-k] at o⊢;clear k ih;go_enter func193,ntmps193;go_wp2_with fail;refine(o.out _).mono ?_;rintro e b ⟨t,u,p,rfl,hF,i,j,m⟩;obtain⟨O,n0,q,P,D,rfl⟩:=hF.three;have E:=i.newBlk;have A:=i.size_alloc;have F:=hdq j;have M:=hdq m;have n:=hF.ext ((xr b).alloc (D0 O n0 q P D));have c:=(xr w).alloc M0;simp only[eQ] at n;clear j m hF;go_wp2_with fail;refine(Nw (w.heap.size+1) _ 11 _ 1 [t] (by intro h;cases h) (Tc.one (g:=b.heap.size+1) (e:=25) n (by simp;omega) (by simp)) (by simp;omega) (by simp)).mono ?_;rintro e S ⟨v,rfl,hN,l⟩;obtain⟨K,C,G,H,r,rfl⟩:=hN.three;have f:=l.blk (((xr b).alloc _|>.alloc _).blk E);obtain⟨L,J,B,V,T,U⟩:=own3 f;have hx2:=(c.trans i).trans (((xr b).alloc _|>.alloc _).trans l);go_wp2_with fail;refine aQ (v:= .tuple #[m0 K C G H r,j0 p]) (by simp[aS,results193,go_sem,L,J,B]) rfl ⟨.mk 11 0 [t],_,p,rfl, ?_, ?_, ?_, ?_⟩
 · exact(((hN.set (by simp) _).set (by simp) _).set (by simp) _).since (by omega)
 · exact((hx2.setCell (by simp) _).setCell (by simp) _).setCell (by simp) _
 · intro x hx
   cases R with
   |none=> cases hx
   |some y=>
    obtain⟨N,I,z⟩:=F.out y rfl;cases hx
    exact⟨by rw[N],I,z⟩
 · intro hx
   cases R with
   |none=> exact M.out rfl
   |some y=> cases hx
theorem AJ(d:Nat)(ih:Yd d)(s:ByteArray)(a:Nat)(w:aN)(hs:s.size<=1000000000)(Q:a < s.size)(hc:s[a]=94)(hd:d<=30):
 aY prog 193 #[.string s,j0 a,j0 ((d:Int)+1)] w (Sb w.heap.size w s.size (one 15 (b7 d s.data.toList (a+1)))):=by
 have o:=hdq (fun W=> ih s (a+1) W hs (by omega));obtain⟨R,k⟩: ∃R,R=b7 d s.data.toList (a+1):=⟨_,rfl⟩;rw[<-k] at o⊢;clear k ih;go_enter func193,ntmps193;go_wp2_with fail;refine(o.out _).mono ?_;rintro e b ⟨t,u,p,rfl,hF,i,j,m⟩;obtain⟨O,n0,q,P,D,rfl⟩:=hF.three;have E:=i.newBlk;have A:=i.size_alloc;have F:=hdq j;have M:=hdq m;have n:=hF.ext ((xr b).alloc (D0 O n0 q P D));have c:=(xr w).alloc M0;simp only[eQ] at n;clear j m hF;go_wp2_with fail;refine(Nw (w.heap.size+1) _ 15 _ 1 [t] (by intro h;cases h) (Tc.one (g:=b.heap.size+1) (e:=25) n (by simp;omega) (by simp)) (by simp;omega) (by simp)).mono ?_;rintro e S ⟨v,rfl,hN,l⟩;obtain⟨K,C,G,H,r,rfl⟩:=hN.three;have f:=l.blk (((xr b).alloc _|>.alloc _).blk E);obtain⟨L,J,B,V,T,U⟩:=own3 f;have hx2:=(c.trans i).trans (((xr b).alloc _|>.alloc _).trans l);go_wp2_with fail;refine aQ (v:= .tuple #[m0 K C G H r,j0 p]) (by simp[aS,results193,go_sem,L,J,B]) rfl ⟨.mk 15 0 [t],_,p,rfl, ?_, ?_, ?_, ?_⟩
 · exact(((hN.set (by simp) _).set (by simp) _).set (by simp) _).since (by omega)
 · exact((hx2.setCell (by simp) _).setCell (by simp) _).setCell (by simp) _
 · intro x hx
   cases R with
   |none=> cases hx
   |some y=>
    obtain⟨N,I,z⟩:=F.out y rfl;cases hx
    exact⟨by rw[N],I,z⟩
 · intro hx
   cases R with
   |none=> exact M.out rfl
   |some y=> cases hx
theorem LG(d:Nat)(ih:Yd d)(s:ByteArray)(a:Nat)(w:aN)(hs:s.size<=1000000000)(Q:a < s.size)(hc:s[a]=95)(hd:d<=30):
 aY prog 193 #[.string s,j0 a,j0 ((d:Int)+1)] w (Sb w.heap.size w s.size (one 16 (b7 d s.data.toList (a+1)))):=by
 have o:=hdq (fun W=> ih s (a+1) W hs (by omega));obtain⟨R,k⟩: ∃R,R=b7 d s.data.toList (a+1):=⟨_,rfl⟩;rw[<-k] at o⊢;clear k ih;go_enter func193,ntmps193;go_wp2_with fail;refine(o.out _).mono ?_;rintro e b ⟨t,u,p,rfl,hF,i,j,m⟩;obtain⟨O,n0,q,P,D,rfl⟩:=hF.three;have E:=i.newBlk;have A:=i.size_alloc;have F:=hdq j;have M:=hdq m;have n:=hF.ext ((xr b).alloc (D0 O n0 q P D));have c:=(xr w).alloc M0;simp only[eQ] at n;clear j m hF;go_wp2_with fail;refine(Nw (w.heap.size+1) _ 16 _ 1 [t] (by intro h;cases h) (Tc.one (g:=b.heap.size+1) (e:=25) n (by simp;omega) (by simp)) (by simp;omega) (by simp)).mono ?_;rintro e S ⟨v,rfl,hN,l⟩;obtain⟨K,C,G,H,r,rfl⟩:=hN.three;have f:=l.blk (((xr b).alloc _|>.alloc _).blk E);obtain⟨L,J,B,V,T,U⟩:=own3 f;have hx2:=(c.trans i).trans (((xr b).alloc _|>.alloc _).trans l);go_wp2_with fail;refine aQ (v:= .tuple #[m0 K C G H r,j0 p]) (by simp[aS,results193,go_sem,L,J,B]) rfl ⟨.mk 16 0 [t],_,p,rfl, ?_, ?_, ?_, ?_⟩
 · exact(((hN.set (by simp) _).set (by simp) _).set (by simp) _).since (by omega)
 · exact((hx2.setCell (by simp) _).setCell (by simp) _).setCell (by simp) _
 · intro x hx
   cases R with
   |none=> cases hx
   |some y=>
    obtain⟨N,I,z⟩:=F.out y rfl;cases hx
    exact⟨by rw[N],I,z⟩
 · intro hx
   cases R with
   |none=> exact M.out rfl
   |some y=> cases hx
theorem oe{s:ByteArray}{a:Nat}{c:UInt8}(h:a < s.size)(hc:s[a]=c):s.data.toList[a]? =some c:=by rw[Uq s h,hc]
theorem fJ(d:Nat)(ih:Yd d)(s:ByteArray)(a:Nat)(w:aN)(hs:s.size<=1000000000)(ha:a<=s.size):
 aY prog 194 #[.string s,j0 a,j0 d] w (Sb w.heap.size w s.size (Yz (b7 d s.data.toList) s.data.toList a)):=by
 have HI:=hdq (fun a W (ha:a<=s.size+2)=> ih s a W hs ha);obtain⟨F,hF⟩: ∃F,F=b7 d s.data.toList:=⟨_,rfl⟩;rw[<-hF] at HI⊢;have gi:Yz F s.data.toList a=match F a with
  |none=> none
  |some (x,b)=> if Zf s.data.toList[b]? =0 then none else
   match F (b+1) with
   |none=> none
   |some (y,c)=> if s.data.toList[c]? =some 41 then some (.mk (Zf s.data.toList[b]?) 0 [x,y],c+1) else none:=rfl
 obtain⟨R,hR⟩: ∃R,R=Yz F s.data.toList a:=⟨_,rfl⟩;rw[<-hR] at gi⊢;have HD:=hdq gi;clear hR ih hF gi;go_enter func194,ntmps194;go_wp2_with fail;refine(HI.out a _ (by omega)).mono ?_;rintro e T ⟨t,u,nx,rfl,hF,e1,B,D⟩;obtain⟨X,n0,Y,Z,U,rfl⟩:=hF.three;have hb:=e1.newBlk;have M:=e1.size_alloc;have hx0:=((xr w).alloc M0).trans e1;have hx1:=hx0.trans ((xr T).alloc (D0 X n0 Y Z U));have W5:=hF.ext ((xr T).alloc (D0 X n0 Y Z U));simp only[eQ] at W5;have q:=((xr T).alloc (D0 X n0 Y Z U)).blk hb;have Hv:=aT T (D0 X n0 Y Z U);cases f:F a with
 |none=>
  obtain rfl:=D f;have C:=HD.out;rw[f] at C;have HR:=hdq C;obtain⟨p,o,n,f0,f1,f2⟩:=own3 q;clear B D C f M;go_wp2_with fail;exact aQ (v:= .tuple #[m0 0 0 none 0 0,j0 (-1)]) (by simp[aS,results194,go_sem,p,o,n]) rfl ⟨.mk 0 0 [],_,-1,rfl,E2.leaf _ _ _ _,((hx1.setCell (by simp) _).setCell (by simp) _).setCell (by simp) _,(fun x hx=> by rw[HR.out] at hx;cases hx),fun _=> rfl⟩
 |some y=>
  obtain⟨x,b⟩:=y;obtain⟨P,S,h3⟩:=B _ f;simp only at P S h3;have j:=HD.out;rw[f] at j;simp only at j;subst P S;clear B D f;have oa:=W5;by_cases hlt:b < s.size
  · obtain⟨c,hc⟩: ∃c,s[b]=c:=⟨_,rfl⟩
    rw[oe hlt hc] at j;have hbz:(b:Int) <(s.size:Int):=by omega
    have t0:decide ((b:Int) < 0)=false:=decide_eq_false (by omega);have t1:decide ((s.size:Int)<=(b:Int))=false:=decide_eq_false (by omega);obtain⟨m,hm⟩: ∃m,c.toNat=m:=⟨_,rfl⟩;have Io:=HI.out (b+1);rw[show((b+1:Nat):Int)=(b:Int)+1 by omega] at Io;have N:=hdq Io;clear Io;by_cases hk:Zf (some c)=0
    · rw[if_pos hk] at j
      have HR:=hdq j;have t2:((m:Int)==62)=false:=by rw[beq_eq_false_iff_ne];intro h;have:c=62:=UInt8.toNat_inj.1 (by rw[hm];simp;omega);rw[this] at hk;exact absurd hk (by decide)
      have t3:((m:Int)==42)=false:=by rw[beq_eq_false_iff_ne];intro h;have:c=42:=UInt8.toNat_inj.1 (by rw[hm];simp;omega);rw[this] at hk;exact absurd hk (by decide)
      have t4:((m:Int)==32)=false:=by rw[beq_eq_false_iff_ne];intro h;have:c=32:=UInt8.toNat_inj.1 (by rw[hm];simp;omega);rw[this] at hk;exact absurd hk (by decide)
      clear j hk;go_wp2_with fail;refine(N.out _ (by omega)).mono ?_;rintro e E ⟨t',u',Ju,rfl,z,Q,-,-⟩;obtain⟨J,G,H,I,L,rfl⟩:=z.three;have r:=(Q.trans ((xr E).alloc (D0 J G H I L))).blk q;obtain⟨p,o,n,f0,f1,f2⟩:=own3 r;have hx2:=hx1.trans (Q.trans ((xr E).alloc (D0 J G H I L)));go_wp2_with fail;exact aQ (v:= .tuple #[m0 0 0 none 0 0,j0 (-1)]) (by simp[aS,results194,go_sem,p,o,n]) rfl ⟨.mk 0 0 [],_,-1,rfl,E2.leaf _ _ _ _,((hx2.setCell (by simp) _).setCell (by simp) _).setCell (by simp) _,(fun x hx=> by rw[HR.out] at hx;cases hx),fun _=> rfl⟩
    · rw[if_neg hk] at j
      obtain⟨K,hK⟩: ∃K,Zf (some c)=K:=⟨_,rfl⟩;rw[hK] at j hk;have hcs:(m=62/\K=3)\/(m=42/\K=13)\/(m=32/\K=5):=by
       unfold Zf at hK;by_cases g1:c=62
       · subst g1;exact .inl ⟨hm.symm,by simpa using hK.symm⟩
       · by_cases g2:c=42
         · subst g2;exact .inr (.inl ⟨hm.symm,by simpa using hK.symm⟩)
         · by_cases g3:c=32
           · subst g3;exact .inr (.inr ⟨hm.symm,by simpa using hK.symm⟩)
           · simp[g1,g2,g3] at hK;exact absurd hK.symm hk
      have Bl:=hdq j;clear j hK hk;rcases hcs with⟨rfl,rfl⟩ |⟨rfl,rfl⟩ |⟨rfl,rfl⟩
      all_goals(
       go_wp2_with fail;refine(N.out _ (by omega)).mono ?_;rintro e E ⟨t',u',Ju,rfl,z,Q,B,D⟩;obtain⟨J,G,H,I,L,rfl⟩:=z.three;have hs2:=Q.size_alloc;have V:=Q.trans ((xr E).alloc (D0 J G H I L));have r:=V.blk q;have yc:=V.blk Hv;have T6:=aT E (D0 J G H I L);obtain⟨p,o,n,f0,f1,f2⟩:=own3 r;obtain⟨x0,x1,x2,-,-,-⟩:=own3 yc;have hx2:=hx1.trans V;have hF2:=W5.ext V;have xw:=(z.ext ((xr E).alloc (D0 J G H I L))).since (show w.heap.size+1<=_ by simp;omega);cases i:F (b+1) with
       |none=>
        obtain rfl:=D i;have C:=Bl.out;rw[i] at C;have HR:=hdq C;clear B D C i;go_wp2_with fail;exact aQ (v:= .tuple #[m0 0 0 none 0 0,j0 (-1)]) (by simp[aS,results194,go_sem,p,o,n]) rfl ⟨.mk 0 0 [],_,-1,rfl,E2.leaf _ _ _ _,((hx2.setCell (by simp) _).setCell (by simp) _).setCell (by simp) _,(fun x hx=> by rw[HR.out] at hx;cases hx),fun _=> rfl⟩
       |some y2=>
        obtain⟨x',A⟩:=y2;obtain⟨P,S,h3'⟩:=B _ i;simp only at P S h3';have k:=Bl.out;rw[i] at k;simp only at k;subst P S;clear B D i;have t5:decide ((A:Int) < 0)=false:=decide_eq_false (by omega);by_cases gj:A < s.size
        · obtain⟨O,hc'⟩: ∃O,s[A]=O:=⟨_,rfl⟩
          rw[oe gj hc'] at k;have hbz':(A:Int) <(s.size:Int):=by omega
          have t6:decide ((s.size:Int)<=(A:Int))=false:=decide_eq_false (by omega);by_cases l:O=41
          · subst l
            rw[if_pos rfl] at k;have HR:=hdq k;clear k;go_wp2_with fail;refine(Nw (w.heap.size+1) _ _ _ 2 [t,t'] (by intro h;cases h) (Tc.two (g:=E.heap.size+1) (e:=25) hF2 xw (by simp;omega) (by simp)) (by simp;omega) (by simp)).mono ?_;rintro e w3 ⟨v,rfl,hN,e3⟩;obtain⟨k3,n3,A3,l3,c3,rfl⟩:=hN.three;obtain⟨z0,z1,z2,g0,g1,g2⟩:=own3 (e3.blk (((xr _).alloc _).blk r));have hx3:=hx2.trans (((xr _).alloc _).trans e3);clear p o n x0 x1 x2;go_wp2_with fail;refine aQ (v:= .tuple #[m0 k3 n3 A3 l3 c3,j0 ((A:Int)+1)]) (by simp[aS,results194,go_sem,z0,z1,z2]) rfl ⟨_,_,_,rfl,(((hN.set (by simp) _).set (by simp) _).set (by simp) _).since (by omega),((hx3.setCell (by simp) _).setCell (by simp) _).setCell (by simp) _, ?_, ?_⟩
            · intro x hx
              rw[HR.out] at hx;cases hx
              exact⟨rfl,by simp,by show A+1<=s.size;omega⟩
            · intro hx
              rw[HR.out] at hx;cases hx
          · rw[if_neg (by intro h;cases h;exact l rfl)] at k
            have HR:=hdq k;have t7:((O.toNat:Int) !=41)=true:=by rw[bne_iff_ne];intro h;exact l (UInt8.toNat_inj.1 (by simp;omega))
            have t8:((O.toNat:Int)==41)=false:=by rw[beq_eq_false_iff_ne];intro h;exact l (UInt8.toNat_inj.1 (by simp;omega))
            clear k l;go_wp2_with fail;exact aQ (v:= .tuple #[m0 0 0 none 0 0,j0 (-1)]) (by simp[aS,results194,go_sem,p,o,n]) rfl ⟨.mk 0 0 [],_,-1,rfl,E2.leaf _ _ _ _,((hx2.setCell (by simp) _).setCell (by simp) _).setCell (by simp) _,(fun x hx=> by rw[HR.out] at hx;cases hx),fun _=> rfl⟩
        · rw[Vp s (by omega),if_neg (by simp)] at k
          have HR:=hdq k;have t6:decide ((s.size:Int)<=(A:Int))=true:=decide_eq_true (by omega);clear k;go_wp2_with fail;exact aQ (v:= .tuple #[m0 0 0 none 0 0,j0 (-1)]) (by simp[aS,results194,go_sem,p,o,n]) rfl ⟨.mk 0 0 [],_,-1,rfl,E2.leaf _ _ _ _,((hx2.setCell (by simp) _).setCell (by simp) _).setCell (by simp) _,(fun x hx=> by rw[HR.out] at hx;cases hx),fun _=> rfl⟩)
  · rw[Vp s (by omega),if_pos (by rfl)] at j
    have HR:=hdq j;have t0:decide ((b:Int) < 0)=false:=decide_eq_false (by omega);have t1:decide ((s.size:Int)<=(b:Int))=true:=decide_eq_true (by omega);obtain⟨p,o,n,f0,f1,f2⟩:=own3 q;clear j M oa;go_wp2_with fail;exact aQ (v:= .tuple #[m0 0 0 none 0 0,j0 (-1)]) (by simp[aS,results194,go_sem,p,o,n]) rfl ⟨.mk 0 0 [],_,-1,rfl,E2.leaf _ _ _ _,((hx1.setCell (by simp) _).setCell (by simp) _).setCell (by simp) _,(fun x hx=> by rw[HR.out] at hx;cases hx),fun _=> rfl⟩
