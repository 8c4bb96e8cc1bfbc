/-
  Lemmas towards the law, 10: Parse, Sub, Ints2, DefKit, Parse2.
-/
import Derived.Test.YtckhbnmfnpolgaaGreatBAI
import Derived.Laws.Strings2
open Go renaming World->aK,Calls->aV,wp_loop_rounds->dY,rounds_succ->cW,TypeId->aY,Value->aS,heap_alloc_new->aR,bodyPost_ret->aO,results->aQ
open Array renaming length_toList->iZ
open List renaming drop_eq_getElem_cons->bX,take_succ_cons->kK,eq_nil_of_length_eq_zero->aZ
open Nat renaming le_refl->aM
open Bool renaming and_eq_true->aW,true_and->bQ
open Go.World renaming size_alloc->dU
open Go.Proofs.Tryz
set_option linter.unusedVariables false
set_option maxHeartbeats 2000000
set_option maxRecDepth 100000
namespace Go.Proofs.YtckhbnmfnpolgaaGreat
open Go.RowKit
theorem Mg{c:UInt8}(h:qf c=true):48<=c.toNat/\c.toNat<=57:=by
 unfold qf at h;simp[UInt8.le_iff_toNat_le] at h
 exact h
theorem mu{c:UInt8}(h:qf c=false):c.toNat < 48\/57 < c.toNat:=by
 unfold qf at h;simp[UInt8.le_iff_toNat_le] at h
 omega
theorem zg(w:aK):aV prog 197 #[.string (S5 [])] w fun e a=> e= .returned (.tuple #[.int .i64 0,.bool false])/\w=a:=by
 have hs:S5 []=({data:=#[]}:ByteArray):=rfl;rw[hs];clear hs;go_enter func197,ntmps197;go_wp2_with fail;go_ret2;exact⟨rfl,rfl⟩
theorem GA(w:aK)(c:UInt8)(hd:qf c=true):aV prog 197 #[.string (S5 [c])] w fun e d=> e= .returned (.tuple #[.int .i64 ((c.toNat:Int) - 48),.bool true])/\w=d:=by
 have hs:S5 [c]=({data:=#[c]}:ByteArray):=rfl;obtain⟨b,f⟩:=Mg hd;have g: ∀h,({data:=#[c]}:ByteArray)[0]'h=c:=fun _=> rfl
 obtain⟨m,hm⟩: ∃m,c.toNat=m:=⟨_,rfl⟩;rw[hs];rw[hm] at b f⊢;have t1:((m:Int)==45)=false:=by rw[beq_eq_false_iff_ne];omega
 have t2:decide ((m:Int) < 48)=false:=decide_eq_false (by omega);have j:decide ((57:Int) <(m:Int))=false:=decide_eq_false (by omega);clear hs hd;obtain⟨a,i⟩: ∃a,((m:Int)==48)=a:=⟨_,rfl⟩;cases a
 all_goals
  go_enter func197,ntmps197;go_wp2_with fail;refine dY 2 ?_;rw[cW];go_wp2_with fail;rw[cW];go_wp2_with fail;go_ret2;exact⟨by simp,rfl⟩
theorem oF(w:aK)(c d:UInt8)(hd:qf c=true)(a:qf d=true)(f:c≠48):aV prog 197 #[.string (S5 [c,d])] w fun e n=> e= .returned (.tuple #[.int .i64 (((c.toNat:Int) - 48)*10+((d.toNat:Int) - 48)),.bool true])/\w=n:=by
 have hs:S5 [c,d]=({data:=#[c,d]}:ByteArray):=rfl;obtain⟨g,k⟩:=Mg hd;obtain⟨l,j⟩:=Mg a;have o: ∀h,({data:=#[c,d]}:ByteArray)[0]'h=c:=fun _=> rfl
 have s: ∀h,({data:=#[c,d]}:ByteArray)[1]'h=d:=fun _=> rfl
 have b:c.toNat≠48:=fun h=> f (UInt8.toNat_inj.1 h)
 obtain⟨m,hm⟩: ∃m,c.toNat=m:=⟨_,rfl⟩;obtain⟨p,i⟩: ∃p,d.toNat=p:=⟨_,rfl⟩;rw[hs];rw[hm] at g k b⊢;rw[i] at l j⊢;have t1:((m:Int)==45)=false:=by rw[beq_eq_false_iff_ne];omega
 have t2:decide ((m:Int) < 48)=false:=decide_eq_false (by omega);have r:decide ((57:Int) <(m:Int))=false:=decide_eq_false (by omega);have t:((m:Int)==48)=false:=by rw[beq_eq_false_iff_ne];omega
 have q:decide ((p:Int) < 48)=false:=decide_eq_false (by omega);have u:decide ((57:Int) <(p:Int))=false:=decide_eq_false (by omega);clear hs hd a f b;go_enter func197,ntmps197;go_wp2_with fail;refine dY 3 ?_;rw[cW];go_wp2_with fail;rw[cW];go_wp2_with fail;rw[cW];go_wp2_with fail;go_ret2;exact⟨by simp,rfl⟩
theorem Nx(w:aK)(d:UInt8):aV prog 197 #[.string (S5 [48,d])] w fun e a=> e= .returned (.tuple #[.int .i64 0,.bool false])/\w=a:=by
 have hs:S5 [48,d]=({data:=#[48,d]}:ByteArray):=rfl;have b: ∀h,({data:=#[48,d]}:ByteArray)[0]'h=48:=fun _=> rfl
 rw[hs];clear hs;go_enter func197,ntmps197;go_wp2_with fail;go_ret2;exact⟨rfl,rfl⟩
theorem eu(s:ByteArray)(a b:Nat):s.extract a b=S5 ((s.data.toList.drop a).take (b - a)):=by
 apply ByteArray.ext
 apply Array.toList_inj.1
 simp[S5,ByteArray.data_extract,Array.toList_extract,List.extract]
theorem Qp(s:ByteArray){a:Nat}(h:a < s.size):s.data.toList[a]? =some s[a]:=by
 rw[Array.getElem?_toList,Array.getElem?_eq_getElem (by exact h)]
 rfl
theorem Po(s:ByteArray){a:Nat}(h:s.size<=a):s.data.toList[a]? =none:=by
 rw[Array.getElem?_toList,Array.getElem?_eq_none (by exact h)]
theorem Wm(s:ByteArray)(a:Nat):s.extract a a=S5 []:=by rw[eu];simp
theorem ZA(s:ByteArray){a:Nat}(h:a < s.size):s.extract a (a+1)=S5 [s[a]]:=by
 rw[eu];have hl:a < s.data.toList.length:=by rw[iZ];exact h
 rw[bX hl,show a+1 - a=0+1 by omega,kK,List.take_zero]
 rfl
theorem Oo(s:ByteArray){a:Nat}(h:a < s.size)(b:a+1 < s.size):s.extract a (a+2)=S5 [s[a],s[a+1]]:=by
 rw[eu];have hl:a < s.data.toList.length:=by rw[iZ];exact h
 have c:a+1 < s.data.toList.length:=by rw[iZ];exact b
 rw[bX hl,bX c,show a+2 - a=0+1+1 by omega,kK,kK,List.take_zero]
 rfl
theorem Ds{s:ByteArray}{a e:Nat}{j:Int}{x:ByteArray}(h:a<=e)(c:e<=s.size)(b:j=e)(hx:s.extract a e=x)(w:aK):(Instr.slice 9 (.string s) (some (.int .i64 a)) (some (.int .i64 j)) none).run prog w= .ok (.string x) w:=by
 subst b;have:=run_slice_string (P:=prog) w 9 s .i64 .i64 (a:Int) (e:Int) underlying9 (by omega) (by omega) (by omega);rw[this,<-hx]
 rfl
def Lb:Option (Int×Nat)->Int×Int
 |some (x,b)=>(x,b)
 |none=>(0,-1)
theorem cF(s:ByteArray)(a:Nat)(w:aK)(hs:s.size<=1000000000)(T:a<=s.size):aV prog 192 #[.string s,.int .i64 a,.int .i64 2] w fun e O=> e= .returned (.tuple #[.int .i64 (Lb (i8 s.data.toList a true)).1,.int .i64 (Lb (i8 s.data.toList a true)).2])/\w=O:=by
 obtain⟨R,b⟩: ∃R,R=Lb (i8 s.data.toList a true):=⟨_,rfl⟩;rw[<-b];by_cases B:a < s.size
 · obtain⟨c,hc⟩: ∃c,s[a]=c:=⟨_,rfl⟩
   have hl:=Qp s B;rw[hc] at hl;by_cases hd:qf c=true
   · obtain⟨N,K⟩:=Mg hd
     have v:=ZA s B;rw[hc] at v;have hx1:=Ds (j:=(a:Int)+1) (Nat.le_succ a) (by omega) rfl v;have U:=hdq v;clear v;obtain⟨m,hm⟩: ∃m,c.toNat=m:=⟨_,rfl⟩;have l:=hdq (fun W=> GA W c hd);rw[hm] at N K l;have t1:decide ((48:Int)<=(m:Int))=true:=decide_eq_true (by omega);have t2:decide ((m:Int)<=57)=true:=decide_eq_true (by omega);have n:R=Lb (some ((m:Int) - 48,a+1))->R=((m:Int) - 48,(a:Int)+1):=fun h=> by rw[h];simp[Lb]
     by_cases G:a+1 < s.size
     · obtain⟨d,t⟩: ∃d,s[a+1]=d:=⟨_,rfl⟩
       have i:=Qp s G;rw[t] at i;have L:decide ((a:Int)+1 <(s.size:Int))=true:=decide_eq_true (by omega);have H:decide ((a:Int)+1 <(a:Int)+2)=true:=decide_eq_true (by omega);by_cases g:qf d=true
       · obtain⟨S,P⟩:=Mg g
         have z:=Oo s B G;rw[hc,t] at z;have hx2:=Ds (j:=(a:Int)+1+1) (show a<=a+2 by omega) (by omega) (by omega) z;obtain⟨p,x⟩: ∃p,d.toNat=p:=⟨_,rfl⟩;have o:decide ((48:Int)<=(p:Int))=true:=decide_eq_true (by omega);have J:decide ((p:Int)<=57)=true:=decide_eq_true (by omega);have Q:decide ((a:Int)+1+1 <(a:Int)+2)=false:=decide_eq_false (by omega);obtain⟨u,M⟩: ∃u,decide ((a:Int)+1+1 <(s.size:Int))=u:=⟨_,rfl⟩;by_cases y:c=48
         · subst y
           have A:=hdq (fun W=> Nx W d);have f:R=(0,-1):=by rw[b];unfold i8;rw[hl];simp only[hd,i,g];rfl
           have HR:=hdq f;clear b f hd hl n i g z l hx1;cases u
           all_goals
            go_enter func192,ntmps192;go_wp2_with fail;refine dY 3 ?_;rw[cW];go_wp2_with fail;rw[cW];go_wp2_with fail;rw[cW];go_wp2_with fail;refine(A.out _).mono ?_;rintro e k ⟨rfl,rfl⟩;go_wp2_with fail;go_ret2;exact⟨by rw[HR.out];rfl,rfl⟩
         · have A:=hdq (fun W=> oF W c d hd g y)
           rw[hm,x] at A;have f:R=(((m:Int) - 48)*10+((p:Int) - 48),(a:Int)+2):=by rw[b];unfold i8;rw[hl];simp only[hd,i,g,y];rw[hm,x];simp[Lb]
           have HR:=hdq f;have I:=hdq (show(a:Int)+1+1=a+2 by omega);clear b f hd hl n i g z l hx1 y;cases u
           all_goals
            go_enter func192,ntmps192;go_wp2_with fail;refine dY 3 ?_;rw[cW];go_wp2_with fail;rw[cW];go_wp2_with fail;rw[cW];go_wp2_with fail;refine(A.out _).mono ?_;rintro e k ⟨rfl,rfl⟩;go_wp2_with fail;go_ret2;exact⟨by rw[HR.out,<-I.out];rfl,rfl⟩
       · have F:qf d=false:=by simpa using g
         obtain⟨p,x⟩: ∃p,d.toNat=p:=⟨_,rfl⟩;have hn:=mu F;rw[x] at hn;have f:R=((m:Int) - 48,(a:Int)+1):=n (by rw[b];unfold i8;rw[hl];simp only[hd,i,F];rw[hm];rfl);have HR:=hdq f;clear b f hd hl n i g F;obtain⟨o,r⟩: ∃o,decide ((48:Int)<=(p:Int))=o:=⟨_,rfl⟩;have C:o=true->decide ((p:Int)<=57)=false:=fun h=> by rw[h] at r;have:=of_decide_eq_true r;exact decide_eq_false (by omega)
         cases o
         · clear C
           go_enter func192,ntmps192;go_wp2_with fail;refine dY 2 ?_;rw[cW];go_wp2_with fail;rw[cW];go_wp2_with fail;refine(l.out _).mono ?_;rintro e k ⟨rfl,rfl⟩;go_wp2_with fail;go_ret2;exact⟨by rw[HR.out];rfl,rfl⟩
         · have J:=C rfl
           clear C;go_enter func192,ntmps192;go_wp2_with fail;refine dY 2 ?_;rw[cW];go_wp2_with fail;rw[cW];go_wp2_with fail;refine(l.out _).mono ?_;rintro e k ⟨rfl,rfl⟩;go_wp2_with fail;go_ret2;exact⟨by rw[HR.out];rfl,rfl⟩
     · have f:R=((m:Int) - 48,(a:Int)+1):=n (by rw[b];unfold i8;rw[hl];simp only[hd,Po s (show s.size<=a+1 by omega)];rw[hm];rfl)
       have HR:=hdq f;have L:decide ((a:Int)+1 <(s.size:Int))=false:=decide_eq_false (by omega);have H:decide ((a:Int) <(a:Int)+2)=true:=decide_eq_true (by omega);clear b f hd hl n;go_enter func192,ntmps192;go_wp2_with fail;refine dY 2 ?_;rw[cW];go_wp2_with fail;rw[cW];go_wp2_with fail;refine(l.out _).mono ?_;rintro e k ⟨rfl,rfl⟩;go_wp2_with fail;go_ret2;exact⟨by rw[HR.out];rfl,rfl⟩
   · have D:qf c=false:=by simpa using hd
     have E:=Ds (j:=(a:Int)) (aM a) (by omega) rfl (Wm s a);have q:R=(0,-1):=by
      rw[b];unfold i8;rw[hl];simp only[D]
      rfl
     obtain⟨m,hm⟩: ∃m,c.toNat=m:=⟨_,rfl⟩;have hn:=mu D;rw[hm] at hn;have HR:=hdq q;clear b q hd D hl;by_cases V:m < 48
     · have t1:decide ((48:Int)<=(m:Int))=false:=decide_eq_false (by omega)
       go_enter func192,ntmps192;go_wp2_with fail;refine dY 1 ?_;rw[cW];go_wp2_with fail;refine(zg _).mono ?_;rintro e k ⟨rfl,rfl⟩;go_wp2_with fail;go_ret2;exact⟨by rw[HR.out];rfl,rfl⟩
     · have t1:decide ((48:Int)<=(m:Int))=true:=decide_eq_true (by omega)
       have t2:decide ((m:Int)<=57)=false:=decide_eq_false (by omega);go_enter func192,ntmps192;go_wp2_with fail;refine dY 1 ?_;rw[cW];go_wp2_with fail;refine(zg _).mono ?_;rintro e k ⟨rfl,rfl⟩;go_wp2_with fail;go_ret2;exact⟨by rw[HR.out];rfl,rfl⟩
 · have q:R=(0,-1):=by
    rw[b];unfold i8;rw[Po s (by omega)]
    rfl
   have E:=Ds (j:=(a:Int)) (aM a) (by omega) rfl (Wm s a);have t0:decide ((a:Int) <(s.size:Int))=false:=decide_eq_false (by omega);have HR:=hdq q;clear b q;go_enter func192,ntmps192;go_wp2_with fail;refine dY 1 ?_;rw[cW];go_wp2_with fail;refine(zg _).mono ?_;rintro e k ⟨rfl,rfl⟩;go_wp2_with fail;go_ret2;exact⟨by rw[HR.out];rfl,rfl⟩
theorem yF(s:ByteArray)(a:Nat)(w:aK)(hs:s.size<=1000000000)(y:a<=s.size):aV prog 192 #[.string s,.int .i64 a,.int .i64 1] w fun e v=> e= .returned (.tuple #[.int .i64 (Lb (i8 s.data.toList a false)).1,.int .i64 (Lb (i8 s.data.toList a false)).2])/\w=v:=by
 obtain⟨R,b⟩: ∃R,R=Lb (i8 s.data.toList a false):=⟨_,rfl⟩;rw[<-b];by_cases n:a < s.size
 · obtain⟨c,hc⟩: ∃c,s[a]=c:=⟨_,rfl⟩
   have hl:=Qp s n;rw[hc] at hl;by_cases hd:qf c=true
   · obtain⟨u,r⟩:=Mg hd
     have f:=ZA s n;rw[hc] at f;have hx1:=Ds (j:=(a:Int)+1) (Nat.le_succ a) (by omega) rfl f;have z:=hdq f;clear f;obtain⟨m,hm⟩: ∃m,c.toNat=m:=⟨_,rfl⟩;have l:=hdq (fun W=> GA W c hd);rw[hm] at u r l;have t1:decide ((48:Int)<=(m:Int))=true:=decide_eq_true (by omega);have t2:decide ((m:Int)<=57)=true:=decide_eq_true (by omega);have o:R=Lb (some ((m:Int) - 48,a+1))->R=((m:Int) - 48,(a:Int)+1):=fun h=> by rw[h];simp[Lb]
     have p:R=((m:Int) - 48,(a:Int)+1):=o (by rw[b];unfold i8;rw[hl];simp only[hd];rw[hm];rfl);have HR:=hdq p;have x:decide ((a:Int)+1 <(a:Int)+1)=false:=decide_eq_false (by omega);clear b p hd hl o;have q:s.size=a+1\/a+1 < s.size:=by omega
     go_enter func192,ntmps192;go_wp2_with fail;refine dY 2 ?_;rw[cW];go_wp2_with fail;rw[cW];rcases q with h|h
     · have t:decide ((a:Int)+1 <(s.size:Int))=false:=decide_eq_false (by omega)
       go_wp2_with fail;refine(l.out _).mono ?_;rintro e g ⟨rfl,rfl⟩;go_wp2_with fail;go_ret2;exact⟨by rw[HR.out];rfl,rfl⟩
     · have t:decide ((a:Int)+1 <(s.size:Int))=true:=decide_eq_true (by omega)
       go_wp2_with fail;refine(l.out _).mono ?_;rintro e g ⟨rfl,rfl⟩;go_wp2_with fail;go_ret2;exact⟨by rw[HR.out];rfl,rfl⟩
   · have i:qf c=false:=by simpa using hd
     have k:=Ds (j:=(a:Int)) (aM a) (by omega) rfl (Wm s a);have d:R=(0,-1):=by
      rw[b];unfold i8;rw[hl];simp only[i]
      rfl
     obtain⟨m,hm⟩: ∃m,c.toNat=m:=⟨_,rfl⟩;have hn:=mu i;rw[hm] at hn;have HR:=hdq d;clear b d hd i hl;by_cases A:m < 48
     · have t1:decide ((48:Int)<=(m:Int))=false:=decide_eq_false (by omega)
       go_enter func192,ntmps192;go_wp2_with fail;refine dY 1 ?_;rw[cW];go_wp2_with fail;refine(zg _).mono ?_;rintro e g ⟨rfl,rfl⟩;go_wp2_with fail;go_ret2;exact⟨by rw[HR.out];rfl,rfl⟩
     · have t1:decide ((48:Int)<=(m:Int))=true:=decide_eq_true (by omega)
       have t2:decide ((m:Int)<=57)=false:=decide_eq_false (by omega);go_enter func192,ntmps192;go_wp2_with fail;refine dY 1 ?_;rw[cW];go_wp2_with fail;refine(zg _).mono ?_;rintro e g ⟨rfl,rfl⟩;go_wp2_with fail;go_ret2;exact⟨by rw[HR.out];rfl,rfl⟩
 · have d:R=(0,-1):=by
    rw[b];unfold i8;rw[Po s (by omega)]
    rfl
   have k:=Ds (j:=(a:Int)) (aM a) (by omega) rfl (Wm s a);have t0:decide ((a:Int) <(s.size:Int))=false:=decide_eq_false (by omega);have HR:=hdq d;clear b d;go_enter func192,ntmps192;go_wp2_with fail;refine dY 1 ?_;rw[cW];go_wp2_with fail;refine(zg _).mono ?_;rintro e g ⟨rfl,rfl⟩;go_wp2_with fail;go_ret2;exact⟨by rw[HR.out];rfl,rfl⟩
def E2:Tr:= .mk 0 0 []
mutual
def shfT(y:Int):Tr->Int->Tr
 | .mk k n a,c=> .mk k (if k=1/\c<=n then n+y else n) (n8 y k a 0 c)
def n8(y:Int):Int->List Tr->Nat->Int->List Tr
 |_, [],_,_=> []
 |k,t::ts,i,c=> shfT y t (c+E4 k i)::n8 y k ts (i+1) c
end
mutual
def Q0(u:Tr):Tr->Int->Int->Tr
 | .mk k n a,x,d=> if k=1/\n=x then shfT d u 0 else .mk k (if k=1/\x < n then n - 1 else n) (K8 u k a 0 x d)
def K8(u:Tr):Int->List Tr->Nat->Int->Int->List Tr
 |_, [],_,_,_=> []
 |k,t::ts,i,x,d=> Q0 u t (x+E4 k i) (d+E4 k i)::K8 u k ts (i+1) x d
end
mutual
def a9(g:Int->Int->Tr):Tr->Int->Tr
 | .mk k n a,b=> if k=1 then g n b else .mk k n (gg g k a 0 b)
def gg(g:Int->Int->Tr):Int->List Tr->Nat->Int->List Tr
 |_, [],_,_=> []
 |k,t::ts,i,b=> a9 g t (b+E4 k i)::gg g k ts (i+1) b
end
mutual
def C8(h:Int->Int->Bool):Tr->Int->Bool
 | .mk k n a,b=> if k=1 then h n b else Uc h k a 0 b
def Uc(h:Int->Int->Bool):Int->List Tr->Nat->Int->Bool
 |_, [],_,_=> true
 |k,t::ts,i,b=> C8 h t (b+E4 k i)&& Uc h k ts (i+1) b
end
theorem LA(y:Int): ∀(k:Int) (ts:List Tr) (i:Nat) (c:Int),(n8 y k ts i c).length=ts.length
 |_, [],_,_=> rfl
 |k,t::ts,i,c=> by simp[n8,LA y k ts (i+1) c]
theorem GD(u:Tr): ∀(k:Int) (ts:List Tr) (i:Nat) (x d:Int),(K8 u k ts i x d).length=ts.length
 |_, [],_,_,_=> rfl
 |k,t::ts,i,x,d=> by simp[K8,GD u k ts (i+1) x d]
mutual
theorem AA(y:Int): ∀(t:Tr) (c:Int),cnt (shfT y t c)=cnt t
 | .mk k n a,c=> by
  unfold shfT;simp only[cnt,SA y k a 0 c]
theorem SA(y:Int): ∀(k:Int) (ts:List Tr) (i:Nat) (c:Int),W1 (n8 y k ts i c)=W1 ts
 |_, [],_,_=> rfl
 |k,t::ts,i,c=> by
  unfold n8;simp only[W1,AA y t _,SA y k ts (i+1) c]
end
mutual
theorem Ow{g:Oc}: ∀{t:Tr} {d e:Int},D0 g t d=true->d<=e->D0 g t e=true
 | .mk k n a,d,e,h,hd=> by
  simp only[D0,aW,decide_eq_true_eq] at h⊢;exact⟨by omega,h.2.1,xA h.2.2 (by omega)⟩
theorem xA{g:Oc}: ∀{ts:List Tr} {d e:Int},m9 g ts d=true->d<=e->m9 g ts e=true
 | [],_,_,_,_=> rfl
 |t::ts,d,e,h,hd=> by
  simp only[m9,aW] at h⊢;exact⟨Ow h.1 hd,xA h.2 hd⟩
end
theorem RB{n:Int}{a:List Tr}{d:Int}(h:D0 m0 (.mk 1 n a) d=true):a= []/\0<=n/\n<=20:=by
 obtain⟨b,c,e,-⟩:=Z4 h;have f:=Bk 1;have:(0:Int)=(a.length:Int):=b;exact⟨aZ (by omega),c,by omega⟩
def Ui(y c:Int)(n b:Int):Tr:= .mk 1 (if c<=n - b then n+y else n) []
def hsh(y c:Int)(n b:Int):Bool:=if c<=n - b then decide (c<=n+y - b)&& decide (n+y<=20) else true
mutual
theorem Ry(y c:Int): ∀(t:Tr) (b d:Int),D0 m0 t d=true->a9 (Ui y c) t b=shfT y t (c+b)
 | .mk k n e,b,d,h=> by
  unfold a9 shfT;by_cases hk:k=1
  · subst hk
    obtain⟨rfl,-,-⟩:=RB h;rw[if_pos rfl];unfold Ui;by_cases a:c<=n - b
    · rw[if_pos a,if_pos ⟨rfl,by omega⟩];rfl
    · rw[if_neg a,if_neg (by omega)];rfl
  · rw[if_neg hk,if_neg (fun h=> hk h.1),cy y c k e 0 b (d - 1) (Z4 h).2.2.2]
theorem cy(y c:Int): ∀(k:Int) (ts:List Tr) (i:Nat) (b d:Int),(∀t∈ts,D0 m0 t d=true)->gg (Ui y c) k ts i b=n8 y k ts i (c+b)
 |_, [],_,_,_,_=> rfl
 |k,t::ts,i,b,d,h=> by
  unfold gg n8;rw[Ry y c t _ d (h t (by simp)),cy y c k ts (i+1) b d (fun t ht=> h t (by simp[ht])),Int.add_assoc]
end
theorem cG{g:Oc}{k n:Int}{a b:Nat}(h:a=b):li g k n a=li g k n b:=by rw[h]
mutual
theorem GB(y c:Int)(j:0<=y): ∀(t:Tr) (b d:Int),D0 m0 t d=true->C8 (hsh y c) t b=D0 m0 (shfT y t (c+b)) d
 | .mk k n f,b,d,h=> by
  have a:=h;simp only[D0,aW] at a;unfold C8 shfT;by_cases hk:k=1
  · subst hk
    obtain⟨rfl,g,i⟩:=RB h;have hd:=of_decide_eq_true a.1;rw[if_pos rfl];have hs: ∀x:Int,0<=x->D0 m0 (.mk 1 x []) d=decide (x<=20):=fun x hx=> by
     simp only[D0,m9,li,List.length_nil,Bool.and_true];rw[decide_eq_true hd,decide_eq_true (show m0.ops 1=((0:Nat):Int) from rfl),bQ,bQ]
     show kb x 0 20=_
     unfold kb;rw[decide_eq_true hx,bQ]
    unfold hsh;by_cases e:c<=n - b
    · rw[if_pos e,if_pos ⟨rfl,by omega⟩,show n8 y 1 [] 0 (c+b)= [] from rfl,hs _ (by omega),decide_eq_true (by omega),bQ]
    · rw[if_neg e,if_neg (by omega),show n8 y 1 [] 0 (c+b)= [] from rfl,hs _ g,decide_eq_true i]
  · rw[if_neg hk,if_neg (fun h=> hk h.1),GC y c j k f 0 b (d - 1) a.2.2]
    simp only[D0];rw[a.1,cG (LA y k f 0 (c+b)),a.2.1]
    rfl
theorem GC(y c:Int)(a:0<=y): ∀(k:Int) (ts:List Tr) (i:Nat) (b d:Int),m9 m0 ts d=true->Uc (hsh y c) k ts i b=m9 m0 (n8 y k ts i (c+b)) d
 |_, [],_,_,_,_=> rfl
 |k,t::ts,i,b,d,h=> by
  simp only[m9,aW] at h;unfold Uc n8;simp only[m9];rw[GB y c a t _ d h.1,GC y c a k ts (i+1) b d h.2,Int.add_assoc]
end
theorem sI{y c:Int}(e:0<=y){t:Tr}(h:j0 m0 t=true):(C8 (hsh y c) t 0 && j0 m0 (a9 (Ui y c) t 0))=j0 m0 (shfT y t c)/\a9 (Ui y c) t 0=shfT y t c:=by
 obtain⟨b,f⟩:=Z3 h;have a:=Ry y c t 0 30 b;have d:=GB y c e t 0 30 b;rw[Int.add_zero] at a d;refine⟨?_,a⟩;rw[a,d];unfold j0;cases D0 m0 (shfT y t c) 30 <;> simp
def Vk(u:Tr)(x:Int)(n b:Int):Tr:=if n - b=x then(if j0 m0 (shfT b u 0)=true then shfT b u 0 else E2) else .mk 1 (if x < n - b then n - 1 else n) []
def Sf(u:Tr)(x:Int)(n b:Int):Bool:=if n - b=x then j0 m0 (shfT b u 0) else true
mutual
theorem yy(u:Tr)(x:Int): ∀(t:Tr) (b d:Int),D0 m0 t d=true->C8 (Sf u x) t b=true->a9 (Vk u x) t b=Q0 u t (x+b) b
 | .mk k n f,b,d,h,a=> by
  unfold C8 at a;unfold a9 Q0;by_cases hk:k=1
  · subst hk
    obtain⟨rfl,-,-⟩:=RB h;rw[if_pos rfl] at a⊢;unfold Sf at a;unfold Vk;by_cases c:n - b=x
    · rw[if_pos c] at a⊢
      rw[if_pos a,if_pos (show(1:Int)=1/\n=x+b from⟨rfl,by omega⟩)]
    · rw[if_neg c,if_neg (show¬((1:Int)=1/\n=x+b) from by omega)]
      by_cases e:x < n - b
      · rw[if_pos e,if_pos (show(1:Int)=1/\x+b < n from⟨rfl,by omega⟩)];rfl
      · rw[if_neg e,if_neg (show¬((1:Int)=1/\x+b < n) from by omega)];rfl
  · rw[if_neg hk] at a⊢
    rw[if_neg (fun h=> hk h.1),if_neg (fun h=> hk h.1),Ky u x k f 0 b (d - 1) (Z4 h).2.2.2 a]
theorem Ky(u:Tr)(x:Int): ∀(k:Int) (ts:List Tr) (i:Nat) (b d:Int),(∀t∈ts,D0 m0 t d=true)->Uc (Sf u x) k ts i b=true->gg (Vk u x) k ts i b=K8 u k ts i (x+b) b
 |_, [],_,_,_,_,_=> rfl
 |k,t::ts,i,b,d,h,a=> by
  unfold Uc at a;rw[aW] at a;unfold gg K8;rw[yy u x t _ d (h t (by simp)) a.1,Ky u x k ts (i+1) b d (fun t ht=> h t (by simp[ht])) a.2,Int.add_assoc]
end
mutual
theorem Uz(u:Tr)(x:Int)(c:cnt u<=400): ∀(t:Tr) (b d:Int),D0 m0 t d=true->C8 (Sf u x) t b=false-> ∀e:Int,e<=30->D0 m0 (Q0 u t (x+b) b) e=false
 | .mk k n g,b,d,h,a,e,i=> by
  unfold C8 at a;unfold Q0;by_cases hk:k=1
  · subst hk
    rw[if_pos rfl] at a;unfold Sf at a;by_cases f:n - b=x
    · rw[if_pos f] at a
      rw[if_pos (show(1:Int)=1/\n=x+b from⟨rfl,by omega⟩),Bool.eq_false_iff];intro hs;have j:=Ow hs i;unfold j0 at a;rw[j,AA,decide_eq_true c] at a;cases a
    · rw[if_neg f] at a
      cases a
  · rw[if_neg hk] at a
    rw[if_neg (fun h=> hk h.1)];simp only[D0];rw[IA u x c k g 0 b (d - 1) (Z4 h).2.2.2 a (e - 1) (by omega)];simp
theorem IA(u:Tr)(x:Int)(f:cnt u<=400): ∀(k:Int) (ts:List Tr) (i:Nat) (b d:Int),(∀t∈ts,D0 m0 t d=true)->Uc (Sf u x) k ts i b=false-> ∀e:Int,e<=30->m9 m0 (K8 u k ts i (x+b) b) e=false
 |_, [],_,_,_,_,a,_,_=> by unfold Uc at a;cases a
 |k,t::ts,i,b,d,h,a,e,c=> by
  unfold Uc at a;unfold K8;simp only[m9];rw[Bool.and_eq_false_iff] at a⊢;rw[Int.add_assoc];rcases a with a|a
  · exact .inl (Uz u x f t _ d (h t (by simp)) a e c)
  · exact .inr (IA u x f k ts (i+1) b d (fun t ht=> h t (by simp[ht])) a e c)
end
theorem fG{u:Tr}{x:Int}(e:cnt u<=400){t:Tr}(h:j0 m0 t=true):(C8 (Sf u x) t 0 && j0 m0 (a9 (Vk u x) t 0))=j0 m0 (Q0 u t x 0)/\(C8 (Sf u x) t 0=true->a9 (Vk u x) t 0=Q0 u t x 0):=by
 obtain⟨c,f⟩:=Z3 h;have a:=yy u x t 0 30 c;have d:=Uz u x e t 0 30 c;rw[Int.add_zero] at a d;refine⟨?_,a⟩;cases b:C8 (Sf u x) t 0 with
 |true=> rw[a b,bQ]
 |false=>
  unfold j0;rw[d b 30 (Int.le_refl _)]
  rfl
theorem Mr{w:aK}{base:Nat}{e:aY}{v:aS}{ns:List Int}(hG:w.ownsRow base e 1 v ns.length (ns.map (Value.int .i64))): ∃B c,v= .slice B ns.length c/\ns.length<=c/\c<=maxLen/\Qa w B ns:=by
 have o:=fun a b=> hG.cells (g:=a) b
 rcases hG.2 with⟨rfl,i⟩ |⟨a,j,l,rfl,m,b,k,n,_⟩
 · obtain rfl:ns= []:=aZ i
   exact⟨none,0,rfl,aM _,Nat.zero_le _,.inl rfl⟩
 · refine⟨_,j,rfl,k,n,.inr ⟨a,0,rfl,O1 b,fun f d=> ?_⟩⟩
   have:=o a rfl f (.int .i64 ns[f]) (by rw[List.getElem?_map,List.getElem?_eq_getElem d];rfl)
   rwa [Addr.add_lit] at this
theorem B2.append{w:aK}{e:aY}{d:List aS}{ts:List Tr}{M:List Nat}(ht:B2 w e d ts M): ∀{a:List aS} {b:List Tr} {L:List Nat},a.length=b.length*3->B2 w e a b L->B2 w e (a++d) (b++ts) (L++M)
 |a, [],L,hx,h=> by
  have c:a= []:=aZ (by simpa using hx);subst c;unfold B2 at h;subst h
  simpa using ht
 |a,x::b,L,hx,h=> by
  obtain⟨m,f,j,rest,k,i,rfl,g,l,rfl⟩:=B2.cons_iff.1 h;exact B2.cons_iff.2 ⟨m,f,j,_,k,i++M,rfl,g,B2.append ht (by simp only[List.length_cons] at hx;omega) l,by simp⟩
def Oi(w a:aK)(e:aY)(b:List aS)(c:List Tr):Prop:= ∃L,B2 a e b c L/\Wc w a L
theorem Oi.two{a b c d:aK}{e:aY}{t1 t2:Tr}{n j m f g i:aS}(k:P0 a b e t1 (.agg #[n,j,m]))(o:P0 c d e t2 (.agg #[f,g,i]))(q:Ext b c)(l:a.heap.size<=b.heap.size)(r:Ext c d):Oi a d e [n,j,m,f,g,i] [t1,t2]:=by
 obtain⟨L,k,p⟩:=k;obtain⟨M,o,t⟩:=o;exact⟨L++(M++ []),B2.cons_iff.2 ⟨n,j,m, [f,g,i],L,M++ [],rfl,k.mono (fun b s=>(q.trans r).heap b (p.2 b s).2),B2.cons_iff.2 ⟨f,g,i, [],M, [],rfl,o,B2.nil,rfl⟩,rfl⟩,by simpa using p.append t q.size l r.size⟩
theorem Oi.since{a w c:aK}{e:aY}{b:List aS}{d:List Tr}(h:Oi w c e b d)(f:a.heap.size<=w.heap.size):Oi a c e b d:=by
 obtain⟨L,h,hf⟩:=h;exact⟨L,h,hf.mono f (aM _)⟩
def vl(w:aK)(e d:aY)(A:Option Addr)(c:List Tr)(L:List Nat):Prop:=
 (c= []/\L= [])\/ ∃b cs a,A=some ⟨b,0,none⟩/\w.heap[b]? =some (.cells cs e (0,0))/\L=b::a/\B2 w d cs.toList c a
def vq(w a:aK)(e c:aY)(A:Option Addr)(b:List Tr):Prop:= ∃L,vl a e c A b L/\Wc w a L
theorem vl.mono{w w':aK}{e d:aY}{A:Option Addr}{c:List Tr}{L:List Nat}(h:vl w e d A c L)(a: ∀b,b∈L->w'.heap[b]? =w.heap[b]?):vl w' e d A c L:=by
 rcases h with h|⟨b,cs,f,rfl,g,rfl,hl⟩
 · exact .inl h
 · exact .inr ⟨b,cs,f,rfl,(a b (by simp)).trans g,rfl,hl.mono (fun x hx=> a x (by simp[hx]))⟩
theorem vq.row{w f a:aK}{e i:aY}{g:Nat}{cs:Array aS}{d:List Tr}{L:List Nat}(c:a.heap[g]? =some (.cells cs e (0,0)))(hl:B2 a i cs.toList d L)(hf:Wc f a L)(j:w.heap.size<=g)(k:g < f.heap.size):vq w a e i (some ⟨g,0,none⟩) d:=by
 refine⟨g::L,.inr ⟨g,cs,L,rfl,c,rfl,hl⟩,List.nodup_cons.2 ⟨fun hm=> ?_,hf.1⟩,fun b hm=> ?_⟩
 · have:=hf.2 g hm
   omega
 · rcases List.mem_cons.1 hm with rfl|hm
   · exact⟨j,O1 c⟩
   · have:=hf.2 b hm
     omega
def j2(B:Nat)(w:aK)(t:Tr)(v:aS):Prop:=InT w (fun b=> B<=b/\b < w.heap.size) t v
theorem j2.leaf(B:Nat)(w:aK)(k n:Int):j2 B w (.mk k n []) (.agg #[.int .i64 k,.int .i64 n,.slice none 0 0]):=InT.mk_iff.2 ⟨none,0,rfl,aM _,Nat.zero_le _,.inl rfl⟩
theorem j2.ext{B:Nat}{w c:aK}{t:Tr}{v:aS}(h:j2 B w t v)(d:Ext w c):j2 B c t v:=h.mono (fun b a=>⟨a.1,Nat.lt_of_lt_of_le a.2 d.size⟩) (fun b a=> d.heap b a.2)
theorem j2.since{B C:Nat}{w:aK}{t:Tr}{v:aS}(h:j2 B w t v)(hc:C<=B):j2 C w t v:=h.mono (fun b a=>⟨Nat.le_trans hc a.1,a.2⟩) (fun _ _=> rfl)
theorem j2.lies{B:Nat}{w:aK}{t:Tr}{v:aS}(h:j2 B w t v):Lies w t v:=h.mono (fun b a=> a.2) (fun _ _=> rfl)
theorem j2.three{B:Nat}{w:aK}{t:Tr}{u:aS}(h:j2 B w t u): ∃k n A l c,u= .agg #[.int .i64 k,.int .i64 n,.slice A l c]:=h.lies.three
theorem j2.set{B:Nat}{w:aK}{t:Tr}{v:aS}(h:j2 B w t v){p:Addr}(c:p.block < B)(u:aS):j2 B (w.setCell p u) t v:=
 h.mono (fun b a=>⟨a.1,by simpa using a.2⟩) (fun b a=> Below.heap_setCell w p u b (by omega))
theorem j2.made{w a:aK}{e:aY}{t:Tr}{v:aS}(h:P0 w a e t v):j2 w.heap.size a t v:=by
 obtain⟨L,h,hf⟩:=h;exact InT.mono (fun b c=> hf.2 b c) (fun _ _=> rfl) h.inT
def Mb(B:Nat)(w:aK)(A:Option Addr)(a:List Tr):Prop:=InK w (fun b=> B<=b/\b < w.heap.size) A a
theorem Mb.one{B g:Nat}{w:aK}{t:Tr}{v0 v1 v2:aS}{e:aY}(h:j2 B w t (.agg #[v0,v1,v2]))(b:B<=w.heap.size)(a:g=w.heap.size):Mb B (w.alloc (.cells #[v0,v1,v2] e)) (some ⟨g,0,none⟩) [t]:=
 a▸InK.one (h.ext ((xr w).alloc _)) (aR w _) ⟨b,by simp⟩
theorem Mb.two{B g:Nat}{w:aK}{t u:Tr}{v0 v1 v2 d b c:aS}{e:aY}(h:j2 B w t (.agg #[v0,v1,v2]))(k:j2 B w u (.agg #[d,b,c]))(i:B<=w.heap.size)(a:g=w.heap.size):Mb B (w.alloc (.cells #[v0,v1,v2,d,b,c] e)) (some ⟨g,0,none⟩) [t,u]:=by
 subst a;have hx:=(xr w).alloc (.cells #[v0,v1,v2,d,b,c] e);have a:=aR w (.cells #[v0,v1,v2,d,b,c] e);have f:=h.ext hx;have j:=k.ext hx;refine .inr ⟨w.heap.size,0,rfl,⟨i,by simp⟩, ?_⟩;unfold O4;refine⟨⟨v0,v1,v2,i1 a 0,i1 a 1,i1 a 2,f⟩, ?_⟩;unfold O4;refine⟨⟨d,b,c,i1 a 3,i1 a 4,i1 a 5,j⟩, ?_⟩;unfold O4
 trivial
theorem Yu(B:Nat)(w:aK)(k:Int)(A:Option Addr)(cap:Nat)(c:List Tr)(hA:A=none->cap=0)(hK:Mb B w A c)(j:B<=w.heap.size)(hn:c.length<=1099511627776):
 aV prog 60 #[.int .i64 k,.slice A c.length cap] w fun e d=> ∃u,e= .returned u/\j2 B d (.mk k 0 c) u/\Ext w d:=
 (xD w k A cap c hA _ (fun b a=> a.2) hK hn).mono fun e d ⟨u,g,i,f⟩=>⟨u,g,i.mono (fun b a=> by
  have:=f.size;rcases a with a|a
  · exact⟨a.1,by omega⟩
  · exact⟨by omega,a.2⟩) (fun _ _=> rfl),f⟩
def Xa(B:Nat)(w:aK)(size:Nat)(o:Option (Tr×Nat))(e:Ending)(b:aK):Prop:=
 ∃(t:Tr) (u:aS) (a:Int),e= .returned (.tuple #[u,.int .i64 a])/\j2 B b t u/\Ext w b/\(∀x,o=some x->t=x.1/\a=x.2/\x.2<=size)/\(o=none->a= -1)
def Vc(d:Nat):Prop:= ∀(s:ByteArray) (a:Nat) (w:aK),s.size<=1000000000->a<=s.size+2->aV prog 176 #[.string s,.int .i64 a,.int .i64 d] w (Xa w.heap.size w s.size (Z5 d s.data.toList a))
theorem SH(d:Nat)(ih:Vc d)(s:ByteArray)(a:Nat)(w:aK)(hs:s.size<=1000000000)(U:a < s.size)(hc:s[a]=43)(hd:d<=30):
 aV prog 193 #[.string s,.int .i64 a,.int .i64 ((d:Int)+1)] w (Xa w.heap.size w s.size (one 8 (Z5 d s.data.toList (a+1)))):=by
 have m:=hdq (fun W=> ih s (a+1) W hs (by omega));obtain⟨R,j⟩: ∃R,R=Z5 d s.data.toList (a+1):=⟨_,rfl⟩;rw[<-j] at m⊢;clear j ih;go_enter func193,ntmps193;go_wp2_with fail;refine(m.out _).mono ?_;rintro e b ⟨t,u,k,rfl,hF,f,o,n⟩;obtain⟨K,n0,B,C,I,rfl⟩:=hF.three;have O:=f.newBlk;have H:=f.size_alloc;have G:=hdq o;have q:=hdq n;have l:=hF.ext ((xr b).alloc (.cells #[.int .i64 K,.int .i64 n0,.slice B C I] 25));have c:=(xr w).alloc (.cells #[.int .i64 0,.int .i64 0,.slice none 0 0] 25);simp only[dU] at l;clear o n hF;go_wp2_with fail;refine(Yu (w.heap.size+1) _ 8 _ 1 [t] (by intro h;cases h) (Mb.one (g:=b.heap.size+1) (e:=25) l (by simp;omega) (by simp)) (by simp;omega) (by simp)).mono ?_;rintro e T ⟨v,rfl,hN,p⟩;obtain⟨F,A,L,J,z,rfl⟩:=hN.three;have i:=p.blk (((xr b).alloc _|>.alloc _).blk O);obtain⟨D,E,P,S,Q,V⟩:=own3 i;have hx2:=(c.trans f).trans (((xr b).alloc _|>.alloc _).trans p);go_wp2_with fail;refine aO (v:= .tuple #[.agg #[.int .i64 F,.int .i64 A,.slice L J z],.int .i64 k]) (by simp[aQ,results193,go_sem,D,E,P]) rfl ⟨.mk 8 0 [t],_,k,rfl, ?_, ?_, ?_, ?_⟩
 · exact(((hN.set (by simp) _).set (by simp) _).set (by simp) _).since (by omega)
 · exact((hx2.setCell (by simp) _).setCell (by simp) _).setCell (by simp) _
 · intro x hx
   cases R with
   |none=> cases hx
   |some y=>
    obtain⟨r,M,N⟩:=G.out y rfl;cases hx
    exact⟨by rw[r],M,N⟩
 · intro hx
   cases R with
   |none=> exact q.out rfl
   |some y=> cases hx
theorem zH(d:Nat)(ih:Vc d)(s:ByteArray)(a:Nat)(w:aK)(hs:s.size<=1000000000)(U:a < s.size)(hc:s[a]=33)(hd:d<=30):
 aV prog 193 #[.string s,.int .i64 a,.int .i64 ((d:Int)+1)] w (Xa w.heap.size w s.size (one 11 (Z5 d s.data.toList (a+1)))):=by
 have m:=hdq (fun W=> ih s (a+1) W hs (by omega));obtain⟨R,j⟩: ∃R,R=Z5 d s.data.toList (a+1):=⟨_,rfl⟩;rw[<-j] at m⊢;clear j ih;go_enter func193,ntmps193;go_wp2_with fail;refine(m.out _).mono ?_;rintro e b ⟨t,u,k,rfl,hF,f,o,n⟩;obtain⟨K,n0,B,C,I,rfl⟩:=hF.three;have O:=f.newBlk;have H:=f.size_alloc;have G:=hdq o;have q:=hdq n;have l:=hF.ext ((xr b).alloc (.cells #[.int .i64 K,.int .i64 n0,.slice B C I] 25));have c:=(xr w).alloc (.cells #[.int .i64 0,.int .i64 0,.slice none 0 0] 25);simp only[dU] at l;clear o n hF;go_wp2_with fail;refine(Yu (w.heap.size+1) _ 11 _ 1 [t] (by intro h;cases h) (Mb.one (g:=b.heap.size+1) (e:=25) l (by simp;omega) (by simp)) (by simp;omega) (by simp)).mono ?_;rintro e T ⟨v,rfl,hN,p⟩;obtain⟨F,A,L,J,z,rfl⟩:=hN.three;have i:=p.blk (((xr b).alloc _|>.alloc _).blk O);obtain⟨D,E,P,S,Q,V⟩:=own3 i;have hx2:=(c.trans f).trans (((xr b).alloc _|>.alloc _).trans p);go_wp2_with fail;refine aO (v:= .tuple #[.agg #[.int .i64 F,.int .i64 A,.slice L J z],.int .i64 k]) (by simp[aQ,results193,go_sem,D,E,P]) rfl ⟨.mk 11 0 [t],_,k,rfl, ?_, ?_, ?_, ?_⟩
 · exact(((hN.set (by simp) _).set (by simp) _).set (by simp) _).since (by omega)
 · exact((hx2.setCell (by simp) _).setCell (by simp) _).setCell (by simp) _
 · intro x hx
   cases R with
   |none=> cases hx
   |some y=>
    obtain⟨r,M,N⟩:=G.out y rfl;cases hx
    exact⟨by rw[r],M,N⟩
 · intro hx
   cases R with
   |none=> exact q.out rfl
   |some y=> cases hx
theorem jF(d:Nat)(ih:Vc d)(s:ByteArray)(a:Nat)(w:aK)(hs:s.size<=1000000000)(U:a < s.size)(hc:s[a]=94)(hd:d<=30):
 aV prog 193 #[.string s,.int .i64 a,.int .i64 ((d:Int)+1)] w (Xa w.heap.size w s.size (one 15 (Z5 d s.data.toList (a+1)))):=by
 have m:=hdq (fun W=> ih s (a+1) W hs (by omega));obtain⟨R,j⟩: ∃R,R=Z5 d s.data.toList (a+1):=⟨_,rfl⟩;rw[<-j] at m⊢;clear j ih;go_enter func193,ntmps193;go_wp2_with fail;refine(m.out _).mono ?_;rintro e b ⟨t,u,k,rfl,hF,f,o,n⟩;obtain⟨K,n0,B,C,I,rfl⟩:=hF.three;have O:=f.newBlk;have H:=f.size_alloc;have G:=hdq o;have q:=hdq n;have l:=hF.ext ((xr b).alloc (.cells #[.int .i64 K,.int .i64 n0,.slice B C I] 25));have c:=(xr w).alloc (.cells #[.int .i64 0,.int .i64 0,.slice none 0 0] 25);simp only[dU] at l;clear o n hF;go_wp2_with fail;refine(Yu (w.heap.size+1) _ 15 _ 1 [t] (by intro h;cases h) (Mb.one (g:=b.heap.size+1) (e:=25) l (by simp;omega) (by simp)) (by simp;omega) (by simp)).mono ?_;rintro e T ⟨v,rfl,hN,p⟩;obtain⟨F,A,L,J,z,rfl⟩:=hN.three;have i:=p.blk (((xr b).alloc _|>.alloc _).blk O);obtain⟨D,E,P,S,Q,V⟩:=own3 i;have hx2:=(c.trans f).trans (((xr b).alloc _|>.alloc _).trans p);go_wp2_with fail;refine aO (v:= .tuple #[.agg #[.int .i64 F,.int .i64 A,.slice L J z],.int .i64 k]) (by simp[aQ,results193,go_sem,D,E,P]) rfl ⟨.mk 15 0 [t],_,k,rfl, ?_, ?_, ?_, ?_⟩
 · exact(((hN.set (by simp) _).set (by simp) _).set (by simp) _).since (by omega)
 · exact((hx2.setCell (by simp) _).setCell (by simp) _).setCell (by simp) _
 · intro x hx
   cases R with
   |none=> cases hx
   |some y=>
    obtain⟨r,M,N⟩:=G.out y rfl;cases hx
    exact⟨by rw[r],M,N⟩
 · intro hx
   cases R with
   |none=> exact q.out rfl
   |some y=> cases hx
theorem CG(d:Nat)(ih:Vc d)(s:ByteArray)(a:Nat)(w:aK)(hs:s.size<=1000000000)(U:a < s.size)(hc:s[a]=95)(hd:d<=30):
 aV prog 193 #[.string s,.int .i64 a,.int .i64 ((d:Int)+1)] w (Xa w.heap.size w s.size (one 16 (Z5 d s.data.toList (a+1)))):=by
 have m:=hdq (fun W=> ih s (a+1) W hs (by omega));obtain⟨R,j⟩: ∃R,R=Z5 d s.data.toList (a+1):=⟨_,rfl⟩;rw[<-j] at m⊢;clear j ih;go_enter func193,ntmps193;go_wp2_with fail;refine(m.out _).mono ?_;rintro e b ⟨t,u,k,rfl,hF,f,o,n⟩;obtain⟨K,n0,B,C,I,rfl⟩:=hF.three;have O:=f.newBlk;have H:=f.size_alloc;have G:=hdq o;have q:=hdq n;have l:=hF.ext ((xr b).alloc (.cells #[.int .i64 K,.int .i64 n0,.slice B C I] 25));have c:=(xr w).alloc (.cells #[.int .i64 0,.int .i64 0,.slice none 0 0] 25);simp only[dU] at l;clear o n hF;go_wp2_with fail;refine(Yu (w.heap.size+1) _ 16 _ 1 [t] (by intro h;cases h) (Mb.one (g:=b.heap.size+1) (e:=25) l (by simp;omega) (by simp)) (by simp;omega) (by simp)).mono ?_;rintro e T ⟨v,rfl,hN,p⟩;obtain⟨F,A,L,J,z,rfl⟩:=hN.three;have i:=p.blk (((xr b).alloc _|>.alloc _).blk O);obtain⟨D,E,P,S,Q,V⟩:=own3 i;have hx2:=(c.trans f).trans (((xr b).alloc _|>.alloc _).trans p);go_wp2_with fail;refine aO (v:= .tuple #[.agg #[.int .i64 F,.int .i64 A,.slice L J z],.int .i64 k]) (by simp[aQ,results193,go_sem,D,E,P]) rfl ⟨.mk 16 0 [t],_,k,rfl, ?_, ?_, ?_, ?_⟩
 · exact(((hN.set (by simp) _).set (by simp) _).set (by simp) _).since (by omega)
 · exact((hx2.setCell (by simp) _).setCell (by simp) _).setCell (by simp) _
 · intro x hx
   cases R with
   |none=> cases hx
   |some y=>
    obtain⟨r,M,N⟩:=G.out y rfl;cases hx
    exact⟨by rw[r],M,N⟩
 · intro hx
   cases R with
   |none=> exact q.out rfl
   |some y=> cases hx
theorem Md{s:ByteArray}{a:Nat}{c:UInt8}(h:a < s.size)(hc:s[a]=c):s.data.toList[a]? =some c:=by rw[Qp s h,hc]
theorem WH(d:Nat)(ih:Vc d)(s:ByteArray)(a:Nat)(w:aK)(hs:s.size<=1000000000)(ha:a<=s.size):
 aV prog 194 #[.string s,.int .i64 a,.int .i64 d] w (Xa w.heap.size w s.size (Xw (Z5 d s.data.toList) s.data.toList a)):=by
 have HI:=hdq (fun a W (ha:a<=s.size+2)=> ih s a W hs ha);obtain⟨F,hF⟩: ∃F,F=Z5 d s.data.toList:=⟨_,rfl⟩;rw[<-hF] at HI⊢;have dz:Xw F s.data.toList a=match F a with
  |none=> none
  |some (x,b)=> if tf s.data.toList[b]? =0 then none else
   match F (b+1) with
   |none=> none
   |some (y,c)=> if s.data.toList[c]? =some 41 then some (.mk (tf s.data.toList[b]?) 0 [x,y],c+1) else none:=rfl
 obtain⟨R,hR⟩: ∃R,R=Xw F s.data.toList a:=⟨_,rfl⟩;rw[<-hR] at dz⊢;have HD:=hdq dz;clear hR ih hF dz;go_enter func194,ntmps194;go_wp2_with fail;refine(HI.out a _ (by omega)).mono ?_;rintro e Y ⟨t,u,nx,rfl,hF,e1,E,D⟩;obtain⟨V,n0,U,X,T,rfl⟩:=hF.three;have hb:=e1.newBlk;have N:=e1.size_alloc;have hx0:=((xr w).alloc (.cells #[.int .i64 0,.int .i64 0,.slice none 0 0] 25)).trans e1;have hx1:=hx0.trans ((xr Y).alloc (.cells #[.int .i64 V,.int .i64 n0,.slice U X T] 25));have T9:=hF.ext ((xr Y).alloc (.cells #[.int .i64 V,.int .i64 n0,.slice U X T] 25));simp only[dU] at T9;have z:=((xr Y).alloc (.cells #[.int .i64 V,.int .i64 n0,.slice U X T] 25)).blk hb;have Jv:=aR Y (.cells #[.int .i64 V,.int .i64 n0,.slice U X T] 25);cases f:F a with
 |none=>
  obtain rfl:=D f;have B:=HD.out;rw[f] at B;have HR:=hdq B;obtain⟨o,n,p,f0,f1,f2⟩:=own3 z;clear E D B f N;go_wp2_with fail;exact aO (v:= .tuple #[.agg #[.int .i64 0,.int .i64 0,.slice none 0 0],.int .i64 (-1)]) (by simp[aQ,results194,go_sem,o,n,p]) rfl ⟨.mk 0 0 [],_,-1,rfl,j2.leaf _ _ _ _,((hx1.setCell (by simp) _).setCell (by simp) _).setCell (by simp) _,(fun x hx=> by rw[HR.out] at hx;cases hx),fun _=> rfl⟩
 |some y=>
  obtain⟨x,b⟩:=y;obtain⟨O,M,h3⟩:=E _ f;simp only at O M h3;have i:=HD.out;rw[f] at i;simp only at i;subst O M;clear E D f;have lq:=T9;by_cases hlt:b < s.size
  · obtain⟨c,hc⟩: ∃c,s[b]=c:=⟨_,rfl⟩
    rw[Md hlt hc] at i;have hbz:(b:Int) <(s.size:Int):=by omega
    have t0:decide ((b:Int) < 0)=false:=decide_eq_false (by omega);have t1:decide ((s.size:Int)<=(b:Int))=false:=decide_eq_false (by omega);obtain⟨m,hm⟩: ∃m,c.toNat=m:=⟨_,rfl⟩;have Kd:=HI.out (b+1);rw[show((b+1:Nat):Int)=(b:Int)+1 by omega] at Kd;have Q:=hdq Kd;clear Kd;by_cases hk:tf (some c)=0
    · rw[if_pos hk] at i
      have HR:=hdq i;have t2:((m:Int)==62)=false:=by rw[beq_eq_false_iff_ne];intro h;have:c=62:=UInt8.toNat_inj.1 (by rw[hm];simp;omega);rw[this] at hk;exact absurd hk (by decide)
      have t3:((m:Int)==42)=false:=by rw[beq_eq_false_iff_ne];intro h;have:c=42:=UInt8.toNat_inj.1 (by rw[hm];simp;omega);rw[this] at hk;exact absurd hk (by decide)
      have t4:((m:Int)==32)=false:=by rw[beq_eq_false_iff_ne];intro h;have:c=32:=UInt8.toNat_inj.1 (by rw[hm];simp;omega);rw[this] at hk;exact absurd hk (by decide)
      clear i hk;go_wp2_with fail;refine(Q.out _ (by omega)).mono ?_;rintro e C ⟨t',u',Hq,rfl,q,S,-,-⟩;obtain⟨I,J,L,H,G,rfl⟩:=q.three;have r:=(S.trans ((xr C).alloc (.cells #[.int .i64 I,.int .i64 J,.slice L H G] 25))).blk z;obtain⟨o,n,p,f0,f1,f2⟩:=own3 r;have hx2:=hx1.trans (S.trans ((xr C).alloc (.cells #[.int .i64 I,.int .i64 J,.slice L H G] 25)));go_wp2_with fail;exact aO (v:= .tuple #[.agg #[.int .i64 0,.int .i64 0,.slice none 0 0],.int .i64 (-1)]) (by simp[aQ,results194,go_sem,o,n,p]) rfl ⟨.mk 0 0 [],_,-1,rfl,j2.leaf _ _ _ _,((hx2.setCell (by simp) _).setCell (by simp) _).setCell (by simp) _,(fun x hx=> by rw[HR.out] at hx;cases hx),fun _=> rfl⟩
    · rw[if_neg hk] at i
      obtain⟨K,hK⟩: ∃K,tf (some c)=K:=⟨_,rfl⟩;rw[hK] at i hk;have hcs:(m=62/\K=3)\/(m=42/\K=13)\/(m=32/\K=5):=by
       unfold tf at hK;by_cases g1:c=62
       · subst g1;exact .inl ⟨hm.symm,by simpa using hK.symm⟩
       · by_cases g2:c=42
         · subst g2;exact .inr (.inl ⟨hm.symm,by simpa using hK.symm⟩)
         · by_cases g3:c=32
           · subst g3;exact .inr (.inr ⟨hm.symm,by simpa using hK.symm⟩)
           · simp[g1,g2,g3] at hK;exact absurd hK.symm hk
      have Bp:=hdq i;clear i hK hk;rcases hcs with⟨rfl,rfl⟩ |⟨rfl,rfl⟩ |⟨rfl,rfl⟩
      all_goals(
       go_wp2_with fail;refine(Q.out _ (by omega)).mono ?_;rintro e C ⟨t',u',Hq,rfl,q,S,E,D⟩;obtain⟨I,J,L,H,G,rfl⟩:=q.three;have hs2:=S.size_alloc;have Z:=S.trans ((xr C).alloc (.cells #[.int .i64 I,.int .i64 J,.slice L H G] 25));have r:=Z.blk z;have rf:=Z.blk Jv;have R4:=aR C (.cells #[.int .i64 I,.int .i64 J,.slice L H G] 25);obtain⟨o,n,p,f0,f1,f2⟩:=own3 r;obtain⟨x0,x1,x2,-,-,-⟩:=own3 rf;have hx2:=hx1.trans Z;have hF2:=T9.ext Z;have se:=(q.ext ((xr C).alloc (.cells #[.int .i64 I,.int .i64 J,.slice L H G] 25))).since (show w.heap.size+1<=_ by simp;omega);cases j:F (b+1) with
       |none=>
        obtain rfl:=D j;have B:=Bp.out;rw[j] at B;have HR:=hdq B;clear E D B j;go_wp2_with fail;exact aO (v:= .tuple #[.agg #[.int .i64 0,.int .i64 0,.slice none 0 0],.int .i64 (-1)]) (by simp[aQ,results194,go_sem,o,n,p]) rfl ⟨.mk 0 0 [],_,-1,rfl,j2.leaf _ _ _ _,((hx2.setCell (by simp) _).setCell (by simp) _).setCell (by simp) _,(fun x hx=> by rw[HR.out] at hx;cases hx),fun _=> rfl⟩
       |some y2=>
        obtain⟨x',A⟩:=y2;obtain⟨O,M,h3'⟩:=E _ j;simp only at O M h3';have k:=Bp.out;rw[j] at k;simp only at k;subst O M;clear E D j;have t5:decide ((A:Int) < 0)=false:=decide_eq_false (by omega);by_cases cn:A < s.size
        · obtain⟨P,hc'⟩: ∃P,s[A]=P:=⟨_,rfl⟩
          rw[Md cn hc'] at k;have hbz':(A:Int) <(s.size:Int):=by omega
          have t6:decide ((s.size:Int)<=(A:Int))=false:=decide_eq_false (by omega);by_cases l:P=41
          · subst l
            rw[if_pos rfl] at k;have HR:=hdq k;clear k;go_wp2_with fail;refine(Yu (w.heap.size+1) _ _ _ 2 [t,t'] (by intro h;cases h) (Mb.two (g:=C.heap.size+1) (e:=25) hF2 se (by simp;omega) (by simp)) (by simp;omega) (by simp)).mono ?_;rintro e w3 ⟨v,rfl,hN,e3⟩;obtain⟨k3,n3,A3,l3,c3,rfl⟩:=hN.three;obtain⟨z0,z1,z2,g0,g1,g2⟩:=own3 (e3.blk (((xr _).alloc _).blk r));have hx3:=hx2.trans (((xr _).alloc _).trans e3);clear o n p x0 x1 x2;go_wp2_with fail;refine aO (v:= .tuple #[.agg #[.int .i64 k3,.int .i64 n3,.slice A3 l3 c3],.int .i64 ((A:Int)+1)]) (by simp[aQ,results194,go_sem,z0,z1,z2]) rfl ⟨_,_,_,rfl,(((hN.set (by simp) _).set (by simp) _).set (by simp) _).since (by omega),((hx3.setCell (by simp) _).setCell (by simp) _).setCell (by simp) _, ?_, ?_⟩
            · intro x hx
              rw[HR.out] at hx;cases hx
              exact⟨rfl,by simp,by show A+1<=s.size;omega⟩
            · intro hx
              rw[HR.out] at hx;cases hx
          · rw[if_neg (by intro h;cases h;exact l rfl)] at k
            have HR:=hdq k;have t7:((P.toNat:Int) !=41)=true:=by rw[bne_iff_ne];intro h;exact l (UInt8.toNat_inj.1 (by simp;omega))
            have t8:((P.toNat:Int)==41)=false:=by rw[beq_eq_false_iff_ne];intro h;exact l (UInt8.toNat_inj.1 (by simp;omega))
            clear k l;go_wp2_with fail;exact aO (v:= .tuple #[.agg #[.int .i64 0,.int .i64 0,.slice none 0 0],.int .i64 (-1)]) (by simp[aQ,results194,go_sem,o,n,p]) rfl ⟨.mk 0 0 [],_,-1,rfl,j2.leaf _ _ _ _,((hx2.setCell (by simp) _).setCell (by simp) _).setCell (by simp) _,(fun x hx=> by rw[HR.out] at hx;cases hx),fun _=> rfl⟩
        · rw[Po s (by omega),if_neg (by simp)] at k
          have HR:=hdq k;have t6:decide ((s.size:Int)<=(A:Int))=true:=decide_eq_true (by omega);clear k;go_wp2_with fail;exact aO (v:= .tuple #[.agg #[.int .i64 0,.int .i64 0,.slice none 0 0],.int .i64 (-1)]) (by simp[aQ,results194,go_sem,o,n,p]) rfl ⟨.mk 0 0 [],_,-1,rfl,j2.leaf _ _ _ _,((hx2.setCell (by simp) _).setCell (by simp) _).setCell (by simp) _,(fun x hx=> by rw[HR.out] at hx;cases hx),fun _=> rfl⟩)
  · rw[Po s (by omega),if_pos (by rfl)] at i
    have HR:=hdq i;have t0:decide ((b:Int) < 0)=false:=decide_eq_false (by omega);have t1:decide ((s.size:Int)<=(b:Int))=true:=decide_eq_true (by omega);obtain⟨o,n,p,f0,f1,f2⟩:=own3 z;clear i N lq;go_wp2_with fail;exact aO (v:= .tuple #[.agg #[.int .i64 0,.int .i64 0,.slice none 0 0],.int .i64 (-1)]) (by simp[aQ,results194,go_sem,o,n,p]) rfl ⟨.mk 0 0 [],_,-1,rfl,j2.leaf _ _ _ _,((hx1.setCell (by simp) _).setCell (by simp) _).setCell (by simp) _,(fun x hx=> by rw[HR.out] at hx;cases hx),fun _=> rfl⟩
