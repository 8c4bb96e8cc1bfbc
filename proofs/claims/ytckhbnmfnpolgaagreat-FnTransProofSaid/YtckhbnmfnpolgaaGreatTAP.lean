/- Lemmas towards the law. -/
import Derived.Test.YtckhbnmfnpolgaaGreatTAO
open Go renaming World->aN,Calls->aY,bodyPost_ret->aQ,results->aS,heap_alloc_new->aT,Value->aU,maxLen->aW
open Go.Value renaming int->fN,ownBlock->gS
open Nat renaming zero_le->cO,le_refl->aP
open Go.World renaming ownsRow_lit->fW,ownsRow_nil->iW,block_lt_of_cell?->bY,alloc->aO
open Go.RowKit.Below renaming heap_setCell->aM
open List renaming getD_eq_getElem?_getD->dW,length_set->gZ,getElem_mem->iO,length_take->dQ,take_length->jP
open Go.Proofs.Tryz
set_option linter.all false
set_option maxHeartbeats 4000000
set_option maxRecDepth 100000
namespace Go.Proofs.YtckhbnmfnpolgaaGreat
open Go.RowKit
theorem Pz(l:List UInt8):(N6 l).toList=l:=by rw[ByteArray.toList_eq,bD]
theorem eJ{l:List UInt8}{t:Tr}{b:Nat}(h:b7 30 l 0=some (t,b)):bd l=if l≠ []/\b=l.length/\Rg t=l then some t else none:=by
 unfold bd;rw[h]
theorem dH{l:List UInt8}(h:b7 30 l 0=none):bd l=none:=by
 unfold bd;rw[h]
theorem yG(s:ByteArray)(w:aN)(hs:s.size<=1000000000):aY prog 134 #[.string s] w fun e w'=> ∃u,e= .returned (.tuple #[u,.bool (bd s.data.toList).isSome])/\E2 w.heap.size w' ((bd s.data.toList).getD (.mk 0 0 [])) u/\Ext w w':=by
 have L:=hdq (fun W=>(show aY prog 176 #[.string s,j0 0,j0 30] W (Sb W.heap.size W s.size (b7 30 s.data.toList 0)) from aC 30 (by omega) s 0 W hs (by omega)));have c:s.data.toList.length=s.size:=by rw[Array.length_toList];rfl
 have o:=ByteArray.toList_eq s;obtain⟨R,q⟩: ∃R,R=bd s.data.toList:=⟨_,rfl⟩;rw[<-q];obtain⟨F,n⟩: ∃F,F=b7 30 s.data.toList 0:=⟨_,rfl⟩;rw[<-n] at L;cases F with
 |none=>
  have G:R=none:=by rw[q];exact dH n.symm
  have HR:=hdq G;obtain⟨K,D⟩: ∃K,s.toList.isEmpty=K:=⟨_,rfl⟩;have Lj:(s.toList== [])=K:=by rw[<-D];cases s.toList <;> rfl
  have t1:((-1:Int) !=(s.size:Int))=true:=by rw[bne_iff_ne];omega
  clear q n c o G;cases K
  all_goals(
   go_enter func134,ntmps134;go_wp2_with fail;refine(L.out _).mono ?_;rintro e k ⟨t,u,nx,rfl,hF,m,-,X⟩;obtain rfl:=X rfl;obtain⟨f,n0,g,j,d,rfl⟩:=hF.three;have hx1:=(((xr w).alloc M0).trans m).trans ((xr k).alloc (D0 f n0 g j d));have a:=((xr k).alloc (D0 f n0 g j d)).blk m.newBlk;obtain⟨x,r,p,f0,f1,Z⟩:=own3 a;clear a X;go_wp2_with fail;exact aQ (v:= .tuple #[m0 0 0 none 0 0,.bool false]) (by simp[aS,results134,go_sem,x,r,p]) rfl ⟨_,by rw[HR.out];rfl,by rw[HR.out];exact E2.leaf _ _ _ _,((hx1.setCell (by simp) _).setCell (by simp) _).setCell (by simp) _⟩)
 |some y=>
  obtain⟨t,b⟩:=y;have z:R=if s.data.toList≠ []/\b=s.data.toList.length/\Rg t=s.data.toList then some t else none:=by rw[q];exact eJ n.symm
  have i:s.data.toList≠ []:=by
   intro h;rw[h] at n;rw[qE (by simp)] at n;cases n
  have D:s.toList.isEmpty=false:=by rw[o];cases l:s.data.toList with|nil=> exact absurd l i|cons=> rfl
  have Lj:(s.toList== [])=false:=by rw[o];cases l:s.data.toList with|nil=> exact absurd l i|cons=> rfl
  have V: ¬(s.toList= []):=by rw[o];exact i
  rw[c] at z;by_cases I:b=s.size
  · obtain⟨fv,T⟩: ∃fv,fv=Rg t:=⟨_,rfl⟩
    rw[<-T] at z;have HF:=hdq (fun W v (h:Lies W t v)=> ZI t W v h);rw[<-T] at HF;have t1:((b:Int) !=(s.size:Int))=false:=by simp[I]
    obtain⟨N,H⟩: ∃N,((N6 fv).toList==s.toList)=N:=⟨_,rfl⟩;have B:R=if N=true then some t else none:=by
     rw[z,<-H,Pz,o];by_cases l:fv=s.data.toList
     · rw[if_pos ⟨i,I,l⟩,if_pos (by rw[l];simp)]
     · rw[if_neg (fun h=> l h.2.2),if_neg (by simpa using l)]
    have HR:=hdq B;have Q:=hdq H;clear q n z i o T B c I;go_enter func134,ntmps134;go_wp2_with fail;refine(L.out _).mono ?_;rintro e k ⟨Y,u,nx,rfl,hF,m,E,-⟩;obtain⟨C,J,P⟩:=E _ rfl;simp only at C J P;subst C J;obtain⟨f,n0,g,j,d,rfl⟩:=hF.three;have S:=m.size_alloc;have hx1:=(((xr w).alloc M0).trans m).trans ((xr k).alloc (D0 f n0 g j d));have a:=((xr k).alloc (D0 f n0 g j d)).blk m.newBlk;have U:=aT k (D0 f n0 g j d);have A:E2 (w.heap.size+1) (k.alloc (D0 f n0 g j d)) Y (m0 f n0 g j d):=by simpa using hF.ext ((xr k).alloc (D0 f n0 g j d))
    clear hF S E;go_wp2_with fail;refine(HF.out _ _ A.lies).mono ?_;rintro e w2 ⟨rfl,M⟩;have hx2:=hx1.trans M;have O:=A.ext M;obtain⟨x,r,p,f0,f1,Z⟩:=own3 (M.blk a);obtain⟨x0,x1,x2,-,-,-⟩:=own3 (M.blk U);have l:=Q.out;clear a U;cases N with
    |false=>
     go_wp2_with fail;exact aQ (v:= .tuple #[m0 0 0 none 0 0,.bool false]) (by simp[aS,results134,go_sem,x,r,p]) rfl ⟨_,by rw[HR.out];rfl,by rw[HR.out];exact E2.leaf _ _ _ _,((hx2.setCell (by simp) _).setCell (by simp) _).setCell (by simp) _⟩
    |true=>
     go_wp2_with fail;exact aQ (v:= .tuple #[m0 f n0 g j d,.bool true]) (by simp[aS,results134,go_sem,x,r,p]) rfl ⟨_,by rw[HR.out];rfl,by rw[HR.out];exact(((O.set (by simp) _).set (by simp) _).set (by simp) _).since (by omega),((hx2.setCell (by simp) _).setCell (by simp) _).setCell (by simp) _⟩
  · have G:R=none:=by rw[z,if_neg (fun h=> I h.2.1)]
    have HR:=hdq G;have t1:((b:Int) !=(s.size:Int))=true:=by rw[bne_iff_ne];omega
    clear q n z i o G c I;go_enter func134,ntmps134;go_wp2_with fail;refine(L.out _).mono ?_;rintro e k ⟨Y,u,nx,rfl,hF,m,E,-⟩;obtain⟨C,J,P⟩:=E _ rfl;simp only at C J P;subst C J;obtain⟨f,n0,g,j,d,rfl⟩:=hF.three;have hx1:=(((xr w).alloc M0).trans m).trans ((xr k).alloc (D0 f n0 g j d));have a:=((xr k).alloc (D0 f n0 g j d)).blk m.newBlk;obtain⟨x,r,p,f0,f1,Z⟩:=own3 a;clear a E;go_wp2_with fail;exact aQ (v:= .tuple #[m0 0 0 none 0 0,.bool false]) (by simp[aS,results134,go_sem,x,r,p]) rfl ⟨_,by rw[HR.out];rfl,by rw[HR.out];exact E2.leaf _ _ _ _,((hx1.setCell (by simp) _).setCell (by simp) _).setCell (by simp) _⟩
end Go.Proofs.YtckhbnmfnpolgaaGreat
namespace Go.Proofs.YtckhbnmfnpolgaaGreat
open Go.RowKit
attribute [local go_sem ↓] Go.wp_at_zero Go.wp_at_succ
def ke(t:Tr):List Int:=(outT t).getD []
def eI(t:Tr):Prop:= ∀(w:aN) (v:aU) (d:Int),I0 sigT t d=true->Lies w t v->d<=1000->aY prog 97 #[v] w fun e a=> ∃x,e= .returned (.tuple #[x,.bool (outT t).isSome])/\a.ownsRow w.heap.size 3 1 x (ke t).length ((ke t).map (fN .i64))/\Ext w a
theorem jK: ∀t:Tr,eI t:=Tr.ind fun k n a hk=> by
 intro w v d hsh X hd;have HR:=hdq (fun V (Q:Ext w V)=> Nt (.mk k n a) d hsh V v (X.ext Q));have Y:=Xy (.mk k n a) d hsh;obtain⟨-,-,-,J⟩:=Iv hsh;obtain⟨A,cap,rfl,hl,hc,hK⟩:=Lies.mk_iff.1 X;obtain⟨i0,hi,T,W,R⟩:=info_parts uF;have S:=hc;unfold aW at S;have l:outT (.mk k n a)=if rdx k a=0 then rd 0 a else some []:=by rw[outT]
 have f:=(xr w).alloc (.cells #[.int .i64 k,.int .i64 n,.slice A a.length cap] 25);have N:=aT w (.cells #[.int .i64 k,.int .i64 n,.slice A a.length cap] 25);obtain⟨r,hr⟩: ∃r,rdx k a=r:=⟨_,rfl⟩;have U:=hdq (show∀V,Ext w V->aY prog 133 #[.agg #[.int .i64 k,.int .i64 n,.slice A a.length cap]] V fun e w'=> e= .returned (.int .i64 r)/\Ext V w' from fun V Q=> by have:=HR.out V Q;rw[show J4 (.mk k n a)=r from hr] at this;exact this);rw[hr] at l;clear hr HR;by_cases G:r=0
 · rw[if_pos G] at l
   have M:(r !=0)=false:=by rw[G];rfl
   subst G;have m:=hdq l;clear l X;go_enter func97,ntmps97;go_wp2_with fail;refine(U.out _ f).mono ?_;rintro e w1 ⟨rfl,y⟩;obtain⟨z0,z1,z2,-,-,-⟩:=own3 (y.blk N);have lz:=D1 (y.blk N);have hx1:=f.trans y;clear N y f U;go_wp2_with fail;clear z0 z1 z2 lz
   go_loopw [14] (fun i wr=> ∃(j:Nat),j<=a.length/\i= .int .i64 j/\Hid (rd 0 a=rd j (a.drop j))/\Ext w wr) (fun i _=> a.length -(intOf i).toNat)
   case atStart=> exact⟨0,cO _,rfl,hdq rfl,hx1⟩
   case round=>
    obtain⟨j,hj',rfl,I,hx⟩:=hrel;by_cases H:j < a.length
    · obtain⟨b,o,s,u,A',B,kids,rfl,HK,c0,c1,c2,I7,I6,hK',x9,O⟩:=hK.get hx H
      have c:rd j (a.drop j)=match outT (.mk s u kids) with|some p=> some ((j:Int)::p) |none=> rd (j+1) (a.drop (j+1)):=by
       rw[List.drop_eq_getElem_cons H,HK.out];conv=> lhs;unfold rd
       rfl
      have L:=Xy (.mk s u kids) (d - 1) (J _ O);have Z:=(xr wr).alloc (.cells #[.int .i64 s,.int .i64 u,.slice A' kids.length B] 25);have E:=hdq (hk _ O _ _ (d - 1) (J _ O) (x9.ext Z) (by omega));have F:ke (.mk s u kids)=(outT (.mk s u kids)).getD []:=rfl;rw[F] at E;clear F;generalize outT (.mk s u kids)=q at c L E;have qu:(j:Int) <(a.length:Int):=by omega
      clear Y x9;go_wp2_with fail;refine E.out.mono ?_;rintro e z ⟨x,rfl,C,h2⟩;have hx2:=(hx.trans Z).trans h2;cases q with
      |some p=>
       have hpl:=L p rfl;simp only[Option.getD_some] at C;simp only at c;have D:=hdq ((m.out.trans I.out).trans c);have ce:=Rz C;obtain⟨Bq,cq,rfl,-,-,-⟩:=Nv C;have hx3:=(xr z).alloc (.cells #[.int .i64 j] 3);have hG:(z.alloc (.cells #[.int .i64 j] 3)).ownsRow z.heap.size 3 1 (.slice (some ⟨z.heap.size,0,none⟩) 1 1) ([(j:Int)]).length (([(j:Int)]).map (fN .i64)):=fW z #[.int .i64 j] 1 (aP _) (by decide) rfl;have T7:=ce.ext hx3;clear c E I m ce C L;go_wp2_with (at_builtin;refine aA _ rfl (.tmp 26) (.tmp 27) 93 rfl z.heap.size 3 i0 _ 8 underlying93 hi T W R (by decide) rfl (ns:= [(j:Int)]) (p:=p) rfl hG (by simp) rfl T7 (by simp;omega) ?_)
       intro va wa cg bc oh;have ol:Ext w wa:=hx2.trans (hx3.grown bc (by intro g hg;simp[gS] at hg;omega));have P:=hx2.size;have az:wa.ownsRow w.heap.size 3 1 va ((j:Int)::p).length ((((j:Int)::p)).map (fN .i64)):=Xz cg P;have ny:=hdq az;clear cg bc oh az;go_wp2_with fail;go_ret2;have K:ke (.mk k n a)=(j:Int)::p:=by unfold ke;rw[D.out];rfl
       exact⟨_,by rw[D.out];rfl,by rw[K];exact ny.out,ol⟩
      |none=>
       simp only at c;have ky:=hdq (I.out.trans c);clear c E C L;go_wp2_with fail
       go_roundw
       case rel=> exact⟨j+1,by omega,by go_num,ky,hx2⟩
       case measure=> simp[intOf];omega
    · have D:=hdq ((m.out.trans I.out).trans (show rd j (a.drop j)=none by rw[List.drop_of_length_le (by omega),rd]))
      clear I m;go_wp2_with fail;go_ret2;have K:ke (.mk k n a)= []:=by unfold ke;rw[D.out];rfl
      exact⟨_,by rw[D.out];rfl,by rw[K];exact iW _ _ _ _,hx⟩
 · rw[if_neg G] at l
   have M:(r !=0)=true:=bne_iff_ne.2 G;have m:=hdq l;clear l;go_enter func97,ntmps97;go_wp2_with fail;refine(U.out _ f).mono ?_;rintro e w1 ⟨rfl,y⟩;go_wp2_with fail;go_ret2;have K:ke (.mk k n a)= []:=by unfold ke;rw[m.out];rfl
   exact⟨_,by rw[m.out];rfl,by rw[K];exact iW _ _ _ _,f.trans y⟩
theorem dF: ∀(a:List Int) (t u:Tr),Qa t a=some u->cnt u<=cnt t
 | [],t,u,e=> by
  have e:t=u:=by cases t;simpa[Qa] using e
  subst e;exact aP _
 |i::a,.mk k n b,u,e=> by
  rw[Qa] at e
  split at e
  · rename_i hi
    have d:=dF a _ u e;have c:=ya (Pk (ks:=b) (i:=i.toNat) (by omega));rw[cnt];omega
  · cases e
def nd:Nat->Nat
 |0=> 3
 |d+1=> 3+4*nd d
mutual
def dT:Tr->Nat
 | .mk _ _ a=> ku a+1
def ku:List Tr->Nat
 | []=> 0
 |t::ts=> max (dT t) (ku ts)
end
theorem Xj: ∀{ts:List Tr} {n:Nat},(∀t∈ts,dT t<=n)->ku ts<=n
 | [],_,_=> cO _
 |t::ts,n,h=> by
  have b:=h t (by simp);have a:=Xj (ts:=ts) (n:=n) fun x hx=> h x (by simp[hx])
  simp only[ku];omega
theorem aE{w:aN}{cs:Array aU}{e:TypeId}{ns:List Int}(hc:cs.toList=ns.map (fN .i64)):Xb (w.alloc (.cells cs e)) (some ⟨w.heap.size,0,none⟩) ns:=sG (aT w _) hc
theorem Rd.set{w:aN}{g m:Nat}(h:Rd w g m){p:Addr}(k:g < p.block)(u:aU):Rd (w.setCell p u) g m:=by
 obtain⟨A,cap,f,q,a,i,e,c,d,j⟩:=h;exact⟨A,cap,f,q,fe a (by omega) u,i,e,c,d,j.below (by simp) (fun b a _=> aM w p u b (by omega))⟩
theorem i1.one(w:aN)(g i:Nat)(u:aU):i1 [g] w (w.setCell ⟨g,i,none⟩ u):=(i1.refl [g] w).setCell (by simp) u
theorem Rd.under{w c:aN}{g m B:Nat}(h:Rd w g m)(a:Below B w c)(n:g < B):Rd c g m:=by
 obtain⟨A,cap,k,q,hk,l,j,d,f,i⟩:=h;exact⟨A,cap,k,q,(a.block g n).trans hk,l,j,d,f,i.below a.size (fun b e _=> a.block b (by omega))⟩
theorem i1.keepBlk{L:List Nat}{w a:aN}{b:Nat}{x:Obj}(c:i1 L w a)(h:w.heap[b]? =some x)(hn: ¬b∈L):a.heap[b]? =some x:=(c.block b (D1 h) hn).trans h
def M9:Tr->List Int->Tr->Tr
 |_, [],u=> u
 | .mk k n a,i::r,u=> .mk k n (a.set i.toNat (M9 (kd a i.toNat) r u))
theorem fC(t u:Tr):M9 t [] u=u:=by cases t;rfl
theorem qk{a:List Tr}{i:Nat}(h:i < a.length)(x:Tr):kd (a.set i x) i=x:=by
 unfold kd;rw[dW,List.getElem?_set_self h]
 rfl
theorem ew{a:List Tr}{i:Nat}(h:i < a.length):a.set i (kd a i)=a:=by
 unfold kd;rw[dW,List.getElem?_eq_getElem h];exact List.set_getElem_self h
theorem bC: ∀(p:List Int) (t u o:Tr),Qa t p=some o->Qa (M9 t p u) p=some u/\M9 (M9 t p u) p o=t
 | [],t,u,o,h=> by
  have e:t=o:=by cases t;simpa[Qa] using h
  subst e;rw[fC,fC];exact⟨by cases u;rfl,rfl⟩
 |i::r,.mk k n a,u,o,h=> by
  rw[Qa] at h
  split at h
  · rename_i hi
    obtain⟨c,b⟩:=bC r (kd a i.toNat) u o h;have hl:i.toNat < a.length:=by omega
    rw[M9,Qa,gZ,if_pos hi,qk hl,M9,qk hl,b,List.set_set,ew hl];exact⟨c,rfl⟩
  · cases h
theorem mD: ∀{ks:List Tr} {i:Nat} (h:i < ks.length) (x:Tr),O1 (ks.set i x)+cnt (kd ks i)=O1 ks+cnt x
 |t::ts,0,h,x=> by simp[kd,O1];omega
 |t::ts,i+1,h,x=> by
  have:=mD (ks:=ts) (i:=i) (by simpa using h) x;rw[wB,List.set_cons_succ,O1,O1];omega
theorem pF: ∀(p:List Int) (t u o:Tr),Qa t p=some o->cnt (M9 t p u)+cnt o=cnt t+cnt u
 | [],t,u,o,h=> by
  have e:t=o:=by cases t;simpa[Qa] using h
  subst e;rw[fC];omega
 |i::r,.mk k n a,u,o,h=> by
  rw[Qa] at h
  split at h
  · rename_i hi
    have c:=pF r (kd a i.toNat) u o h;have b:=mD (ks:=a) (i:=i.toNat) (by omega) (M9 (kd a i.toNat) r u);rw[M9,cnt,cnt];omega
  · cases h
theorem j90{P:Program}(w:aN){ops:Array Oper}{rest:List Oper}{o:Oper}{a:Act}{Q:Exit->Act->aN->Prop}(A:o.guard=none)(s x:Operand)(t:TypeId)
 (M:o.op= .call {callee:= .builtin .append,args:=#[s,x],argTypes:=#[t,t]})
 (base:Nat) (e:TypeId) (i:TypeInfo) (z:aU) (ht:P.underlying t=some (.slice e)) (hi:P.info? e=some i) (H:i.zero=some z) (f:i.size=3) (B:i.bytes=40) (r:z.cells.size=3)
 {v:aU} {y o0 cap:Nat} {c:List Tr} (hs:a.eval s=v) (l:w.ownsRow base e 3 v 0 []) (d:base<=w.heap.size) (hx:a.eval x= .slice (some ⟨y,o0,none⟩) c.length cap) {S:Nat->Prop} (hS: ∀b,S b->b < w.heap.size/\v.ownBlock≠some b) (hK:d5 w S y o0 c) (hn:c.length<=1048576) (Y:0 < c.length)
 (h: ∀(m g:Nat) (cs:Array aU) (k:aN),k.heap[g]? =some (.cells cs e (0,0))->base<=g->c.length*3<=cs.size->W1 k S cs.toList c->c.length<=m->m<=aW->w.grownBy k v.ownBlock->wpList P ops Q rest (a.put o.dst (.slice (some ⟨g,0,none⟩) c.length m)) k):wpList P ops Q (o::rest) a w:=by
 refine wpList_plain A fun K p=> ?_
 obtain⟨O,J,I,T,R⟩:=hK.rowL;obtain⟨Z,k,hr,D,E,X⟩:=Oo (P:=P) w base t o.type e i z 3 40 ht hi H f B r (by decide) v 0 [] l ⟨y,o0,none⟩ c.length cap O J (fun j u L=> by rw[Addr.add_lit];exact I j u L) T (by unfold aW;omega) (by omega) d;rw[Nat.zero_add,List.nil_append] at D;unfold Oper.wp execOp;simp only[M,resolve,invoke,builtin,Sem.run_bind,Sem.run_pure,Result.andThen_ok,List.map_toArray,List.map_cons,List.map_nil,hs,hx,hr];rcases D.2 with⟨-,W⟩ |⟨g,m,cs,rfl,n,V,F,C,q,U⟩
 · omega
 · refine p _ _ (h m g cs k V n (by rw[q];exact Nat.mul_le_mul_right _ F) ?_ F C E)
   have G:=W1.tail (cs.toList.drop (c.length*3)) (R.mono (fun _ h=> h) (fun b n=> E.block b (hS b n).1 (fun N=>(hS b n).2 N.symm)));rw[<-U,List.take_append_drop] at G;exact G
theorem rI:(prog.info? 25).map (fun i=>(i.zero,i.size,i.bytes))=some (some (m0 0 0 none 0 0),3,40):=by kernel_rfl
theorem OJ(a:List Tr)(w:aN)(S:Nat->Prop)(hS: ∀b,S b->b < w.heap.size)(b o cap:Nat)(t:S b)(hK:d5 w S b o a)(hn:a.length<=1048576)(D:0 < a.length):aY prog 179 #[.slice (some ⟨b,o,none⟩) a.length cap] w fun e d=>
 ∃(c g:Nat) (cs:Array aU),e= .returned (.slice (some ⟨g,0,none⟩) a.length c)/\d.heap[g]? =some (.cells cs 25 (0,0))/\w.heap.size<=g/\a.length*3<=cs.size/\W1 d S cs.toList a/\a.length<=c/\c<=aW/\Ext w d:=by
 obtain⟨E,hi,f,i,l⟩:=info_parts rI;have hx:=(xr w).alloc (.cells #[] 25);have m:d5 (w.alloc (.cells #[] 25)) S b o a:=d5.mono (fun _ h=> h) (fun x j=> hx.heap x (hS x j)) t hK;have hG:(w.alloc (.cells #[] 25)).ownsRow w.heap.size 25 3 (.slice (some ⟨w.heap.size,0,none⟩) 0 0) 0 []:=fW w #[] 0 (aP _) (cO _) rfl;have p: ∀W,(binOp .eql 23 (.slice (some ⟨b,o,none⟩) a.length cap) (.slice none 0 0)).run prog W= .ok (.bool false) W:=fun W=> Lib.run_eql_slice_nil W 23 _ (some ⟨b,o,none⟩) a.length cap 0 0 underlying23
 clear hK;go_enter func179,ntmps179;go_wp2_with (at_builtin;refine j90 _ rfl (.tmp 5) (.tmp 6) 23 rfl w.heap.size 25 E _ underlying23 hi f i l rfl (S:=S) (v:= .slice (some ⟨w.heap.size,0,none⟩) 0 0) rfl hG (by simp) rfl (fun y n=>⟨by have q:y < w.heap.size:=hS y n;simp;omega,by have q:y < w.heap.size:=hS y n;simp[gS];omega⟩) m hn D ?_)
 intro c g cs d u z C r A B s;have hE:Ext w d:=hx.grown s (by intro k hk;simp[gS] at hk;omega);go_wp2_with fail;go_ret;exact⟨c,g,cs,rfl,u,z,C,r,A,B,hE⟩
structure pm (w:aN) (A:Option Addr) (n cap:Nat) (p:List Int):Prop where
 hn:p.length=n
 hl:n<=cap
 hc:cap<=aW
 hP:Xb w A p
theorem pm.ext{w a:aN}{A:Option Addr}{n cap:Nat}{p:List Int}(h:pm w A n cap p)(b:Ext w a):pm a A n cap p:=⟨h.hn,h.hl,h.hc,h.hP.ext b⟩
theorem pm.tail{w:aN}{b o n cap:Nat}{i:Int}{r:List Int}(h:pm w (some ⟨b,o,none⟩) n cap (i::r)):pm w (if cap=1 then some ⟨b,o,none⟩ else some ⟨b,o+1,none⟩) (n - 1) (cap - 1) r:=by
 obtain⟨g,p,k,c⟩:=h;simp only[List.length_cons] at g;refine⟨by omega,by omega,by omega, ?_⟩;by_cases hc:cap=1
 · exact .inl (List.eq_nil_of_length_eq_zero (by omega))
 · rw[if_neg hc]
   rcases c with c|⟨m,l,d,f,a⟩
   · cases c
   · simp only[Option.some.injEq,Addr.mk.injEq,and_true] at d
     obtain⟨rfl,rfl⟩:=d;refine .inr ⟨b,o+1,rfl,f,fun j e=> ?_⟩;have:=a (j+1) (by simpa using e)
     rwa [show o+(j+1)=o+1+j by omega] at this
def UH(p:List Int):Prop:= ∀(t u:Tr) (d:Int),I0 sigT t d=true->(Qa t p).isSome=true-> ∀(w:aN) (f c:aU) (S:Nat->Prop),(∀b,S b->b < w.heap.size)->InT w S t f->InT w S u c-> ∀(A:Option Addr) (n cap:Nat),pm w A n cap p->n<=1000->cnt t<=1000000->
 aY prog 175 #[f,.slice A n cap,c] w fun e a=> ∃x,e= .returned x/\InT a (fun b=> S b\/w.heap.size<=b/\b < a.heap.size) (M9 t p u) x/\Ext w a
theorem ms: ∀p:List Int,UH p:=fun p=> by
 induction p with
 |nil=>
  intro t u d hsh C w vt vu S hS hT hU A n cap hp R7 D4;obtain⟨k,B,s⟩:=t;obtain⟨At,ct,rfl,hlt,l9,Cr⟩:=InT.mk_iff.1 hT;obtain⟨K,I,us⟩:=u;have Hc:=hU;obtain⟨X,Q,rfl,Ku,mg,hKu⟩:=InT.mk_iff.1 hU;have O8:n=0:=hp.hn.symm;subst O8;have G:=(((xr w).alloc (D0 k B At s.length ct)).alloc (D0 K I X us.length Q)).alloc M0;obtain⟨H,hb1,hb2,hs2⟩:=ad (xr (((w.alloc (D0 k B At s.length ct)).alloc (D0 K I X us.length Q)).alloc M0));go_enter func175,ntmps175;go_wp2_with fail;rw[fC];refine aQ (v:= m0 K I X us.length Q) (by simp[aS,results175,go_sem]) rfl ⟨_,rfl, ?_, ?_⟩
  · exact InT.mono (fun b hb=> .inl hb) (fun b hb=>((((xr w).alloc _).alloc _).alloc _).heap b (hS b hb)) Hc
  · exact(((xr w).alloc _).alloc _).alloc _
 |cons i r ih=>
  intro t u d hsh C w vt vu S hS hT hU A n cap hp R7 D4;obtain⟨k,B,s⟩:=t;obtain⟨At,ct,rfl,hlt,l9,Cr⟩:=InT.mk_iff.1 hT;obtain⟨K,I,us⟩:=u;have Hc:=hU;obtain⟨X,Q,rfl,Ku,mg,hKu⟩:=InT.mk_iff.1 hU;have O8:n=r.length+1:=by have:=hp.hn;simpa using this.symm
  obtain⟨b1,o1,rfl,cp⟩:=hp.hP.get (xr w) (j:=0) (by simp);simp only[List.getElem_cons_zero,Nat.add_zero] at cp;have hi:0<=i/\i < s.length:=by
   rw[Qa] at C
   split at C
   · assumption
   · cases C
  rw[Qa,if_pos hi] at C;obtain⟨m,rfl⟩:=Int.eq_ofNat_of_zero_le hi.1;have hm:m < s.length:=by omega
  have Kf:((m:Int)).toNat=m:=by omega
  rw[Kf] at C;have W:M9 (.mk k B s) ((m:Int)::r) (.mk K I us)= .mk k B (s.set m (M9 (kd s m) r (.mk K I us))):=by rw[M9,Kf]
  rw[W];obtain⟨b,o,P,T,A2,c2,y17,rfl,sr,Gw,d0,d1,d2,ic,gv,hK2⟩:=InK.at_ Cr hm;have D6:kd s m= .mk P T y17:=Pe hm Gw;obtain⟨-,-,-,hsk⟩:=Iv hsh;have Iw:I0 sigT (.mk P T y17) (d - 1)=true:=by have:=hsk _ (iO hm);rwa [Gw] at this
  have J8:InT w S (.mk P T y17) (m0 P T A2 y17.length c2):=InT.mk_iff.2 ⟨A2,c2,rfl,ic,gv,hK2⟩;have hcm:cnt (.mk P T y17)<=O1 s:=by have:=ya (iO hm);rwa [Gw] at this
  simp only[cnt] at D4;rw[D6] at C⊢;have Bn:d5 w S b o s:=by
   rcases Cr with h|⟨b',o',he,-,hh⟩
   · subst h;simp at hm
   · simp only[Option.some.injEq,Addr.mk.injEq,and_true] at he
     obtain⟨rfl,rfl⟩:=he;exact hh
  have hlc:=Tg s;have Gc:=hS b sr;have hb1w:b1 < w.heap.size:=bY _ _ cp;have G:=(((xr w).alloc (D0 k B (some ⟨b,o,none⟩) s.length ct)).alloc (D0 K I X us.length Q)).alloc M0;obtain⟨H,Je,hbr,hs2⟩:=ad (xr (((w.alloc (D0 k B (some ⟨b,o,none⟩) s.length ct)).alloc (D0 K I X us.length Q)).alloc M0));have hpt:=hp.tail;have hcpb:n<=cap:=hp.hl;have Jq:cap<=aW:=hp.hc;unfold aW at Jq;obtain⟨AD,Hl⟩: ∃AD,(if cap=1 then some (⟨b1,o1,none⟩:Addr) else some ⟨b1,o1+1,none⟩)=AD:=⟨_,rfl⟩;rw[Hl] at hpt;have HAD:=hdq Hl;have hnz:((n:Int)==0)=false:=beq_eq_false_iff_ne.2 (by omega);have hnz2:(n==0)=false:=beq_eq_false_iff_ne.2 (by omega);have Fw:(0:Int) <(n:Int):=by omega
  have zi:(1:Int)<=(n:Int):=by omega
  have hn6:0 < n:=by omega
  have hn7:1<=n:=by omega
  have hn8:1<=cap:=by omega
  have pu:(1:Int)<=(cap:Int):=by omega
  have hn5:(n:Int)<=(cap:Int):=by omega
  have hm2:(m:Int) <(s.length:Int):=by omega
  have hm3:(0:Int)<=(m:Int):=by omega
  clear Hl W hsk Gw Kf hi O8 hT hU D6;go_enter func175,ntmps175;go_wp2_with fail;generalize aO (aO (aO w _) _) _=q at G H Je hbr hs2⊢;obtain⟨z0,z1,z2,-,-,-⟩:=own3 H;have yh:=hdq (show∀z,Ext q z->z.cell? ⟨w.heap.size,0,none⟩=some (j0 k)/\z.cell? ⟨w.heap.size,1,none⟩=some (j0 B)/\z.cell? ⟨w.heap.size,2,none⟩=some (.slice (some ⟨b,o,none⟩) s.length ct) from fun z hw=>⟨hw.cell z0,hw.cell z1,hw.cell z2⟩);have M:Ext q q.drew:=(xr q).drew;have Ep: ∀y,S y->y < q.heap.size:=fun y l=> by have:=hS y l;have:=G.size;omega
  have Jw:d5 q S b o s:=d5.mono (fun _ h=> h) (fun y l=> G.heap y (hS y l)) sr Bn;have sy: ∀V,Ext q V->d5 V S b o s:=fun V hV=> d5.mono (fun _ h=> h) (fun y l=> hV.heap y (Ep y l)) sr Jw
  have Eg:=hdq sy;clear sy z0 z1 z2
  go_region_held3 (fun z=> z.cell? ⟨w.heap.size,0,none⟩=some (j0 k)/\z.cell? ⟨w.heap.size,1,none⟩=some (j0 B)/\z.cell? ⟨w.heap.size,2,none⟩=some (.slice (some ⟨b,o,none⟩) s.length ct))
   (first|exact yh.out _ (((O.setCell (p:=⟨q.heap.size,0,none⟩) (aP _) _).setCell (p:=⟨q.heap.size,1,none⟩) (aP _) _).setCell (p:=⟨q.heap.size,2,none⟩) (aP _) _) |exact yh.out _ (O.alloc _) |exact yh.out _ O|exact yh.out _ M|exact yh.out _ (M.alloc _) |exact yh.out _ ((xr q).alloc _).drew)
   (first|(go_at_call 179;refine(OJ s _ S (fun y l=> Nat.lt_of_lt_of_le (Ep y l) (Ext.size (by first|exact M|exact M.alloc _|exact((xr q).alloc _).drew))) b o ct sr (Eg.out _ (by first|exact M|exact M.alloc _|exact((xr q).alloc _).drew)) (by omega) (by omega)).mono ?_;rintro e E ⟨c,g,cs,rfl,F,ah,hcs,Iu,hc1,Mg,ed⟩;have O:Ext q E:=(by first|exact M.trans ed|exact(M.alloc _).trans ed|exact(((xr q).alloc _).drew).trans ed);(first|(have qb:E.heap[q.heap.size]? =some M0:=ed.blk (aT q.drew M0);have hgb:q.heap.size < g:=(by simp at ah;omega);obtain⟨sa,sb,sc,fa,fb,fc⟩:=own3 qb) |(have qb:E.heap[q.heap.size]? =some M0:=ed.blk (aT q M0);have hgb:q.heap.size < g:=(by simp at ah;omega);obtain⟨sa,sb,sc,fa,fb,fc⟩:=own3 qb) |(have qb:=trivial;have hgb:=trivial))))
  all_goals have hws:w.heap.size+3<=q.heap.size:=by omega
  all_goals have hgS:q.heap.size<=g:=by have h9:=ah;simp at h9;omega
  all_goals(first
   |(have Z:Ext q (E.alloc (D0 k B (some ⟨g,0,none⟩) s.length c)):=O.alloc _;have L:=aT E (D0 k B (some ⟨g,0,none⟩) s.length c);have Y:=((xr E).alloc (D0 k B (some ⟨g,0,none⟩) s.length c)).blk F;have Rn:W1 (E.alloc (D0 k B (some ⟨g,0,none⟩) s.length c)) S cs.toList s:=Iu.mono (fun _ h=> h) (fun y l=> Below.heap_alloc E _ y (by have:=Ep y l;have:=O.size;omega));have J:E.heap.size≠g:=(by have:=D1 F;omega);have gw:q.heap.size<=E.heap.size:=O.size;obtain⟨D,B9⟩: ∃x,x=E.alloc (D0 k B (some ⟨g,0,none⟩) s.length c):=⟨_,rfl⟩;rw[<-B9];rw[<-B9] at Z L Y Rn;clear B9;obtain⟨g7,U⟩: ∃x,x=E.heap.size:=⟨_,rfl⟩;rw[<-U] at L J gw⊢;clear U)
   |(have Z:Ext q (((E.setCell ⟨q.heap.size,0,none⟩ (j0 k)).setCell ⟨q.heap.size,1,none⟩ (j0 B)).setCell ⟨q.heap.size,2,none⟩ (.slice (some ⟨g,0,none⟩) s.length c)):=((O.setCell (p:=⟨q.heap.size,0,none⟩) (aP _) _).setCell (p:=⟨q.heap.size,1,none⟩) (aP _) _).setCell (p:=⟨q.heap.size,2,none⟩) (aP _) _;have L:=b6 (b6 (b6 qb 0 (j0 k)) 1 (j0 B)) 2 (.slice (some ⟨g,0,none⟩) s.length c);have Y:=fe (fe (fe F (p:=⟨q.heap.size,0,none⟩) (by show g≠q.heap.size;omega) (j0 k)) (p:=⟨q.heap.size,1,none⟩) (by show g≠q.heap.size;omega) (j0 B)) (p:=⟨q.heap.size,2,none⟩) (by show g≠q.heap.size;omega) (.slice (some ⟨g,0,none⟩) s.length c);have Rn:W1 (((E.setCell ⟨q.heap.size,0,none⟩ (j0 k)).setCell ⟨q.heap.size,1,none⟩ (j0 B)).setCell ⟨q.heap.size,2,none⟩ (.slice (some ⟨g,0,none⟩) s.length c)) S cs.toList s:=Iu.mono (fun _ h=> h) (fun y l=> by have h8:=Ep y l;rw[aM _ _ _ _ (by show y≠q.heap.size;omega),aM _ _ _ _ (by show y≠q.heap.size;omega),aM _ _ _ _ (by show y≠q.heap.size;omega)]);have J:q.heap.size≠g:=(by omega);obtain⟨D,B9⟩: ∃x,x=(((E.setCell ⟨q.heap.size,0,none⟩ (j0 k)).setCell ⟨q.heap.size,1,none⟩ (j0 B)).setCell ⟨q.heap.size,2,none⟩ (.slice (some ⟨g,0,none⟩) s.length c)):=⟨_,rfl⟩;rw[<-B9];rw[<-B9] at Z L Y Rn;clear B9;obtain⟨g7,U⟩: ∃x,x=q.heap.size:=⟨_,rfl⟩;have gw:q.heap.size<=g7:=(by rw[U];exact aP _);rw[<-U] at L J⊢;clear U))
  all_goals(
   try clear sa sb sc fa fb fc
   clear qb hgb O ed F Iu ah M yh;have R:Ext w D:=G.trans Z;obtain⟨y0,y1,y2,-,-,-⟩:=own3 L;obtain⟨-,-,t2,-,-,-⟩:=own3 (Z.blk H);obtain⟨v0,v1,v2,-,-,-⟩:=own3 (Z.blk Je);have p0:=R.cell cp;have q0:=R.cell d0;have q1:=R.cell d1;have q2:=R.cell d2;have U:g7 < D.heap.size:=D1 L;have hgr:g < D.heap.size:=D1 Y;have Gu:=hdq (show∀z:aN,(∀y,y < D.heap.size->y≠g->z.heap[y]? =D.heap[y]?)->z.cell? ⟨g7,2,none⟩=some (.slice (some ⟨g,0,none⟩) s.length c)/\z.cell? ⟨w.heap.size,2,none⟩=some (.slice (some ⟨b,o,none⟩) s.length ct)/\z.cell? ⟨b1,o1,none⟩=some (j0 m)/\z.cell? ⟨b,o+m*3,none⟩=some (j0 P)/\z.cell? ⟨b,o+m*3+1,none⟩=some (j0 T)/\z.cell? ⟨b,o+m*3+2,none⟩=some (.slice A2 y17.length c2)/\z.cell? ⟨w.heap.size+1,0,none⟩=some (j0 K)/\z.cell? ⟨w.heap.size+1,1,none⟩=some (j0 I)/\z.cell? ⟨w.heap.size+1,2,none⟩=some (.slice X us.length Q) from fun z hw=> by
    have f: ∀(y j:Nat) (x:aU),y < D.heap.size->y≠g->D.cell? ⟨y,j,none⟩=some x->z.cell? ⟨y,j,none⟩=some x:=fun y j x h1 h2 h3=>(World.cell?_of_block (a:=⟨y,j,none⟩) (hw y h1 h2)).trans h3
    exact⟨f _ _ _ U J y2,f _ _ _ (by omega) (by omega) t2,f _ _ _ (by omega) (by omega) p0,f _ _ _ (by omega) (by omega) q0,f _ _ _ (by omega) (by omega) q1,f _ _ _ (by omega) (by omega) q2,f _ _ _ (by omega) (by omega) v0,f _ _ _ (by omega) (by omega) v1,f _ _ _ (by omega) (by omega) v2⟩)
   have X7:Ext D D.drew:=(xr D).drew;have hS7: ∀y,S y->y < D.heap.size:=fun y l=> by have:=hS y l;omega
   go_wp2_with fail;clear y0 y1 y2 t2 v0 v1 v2 p0 q0 q1 q2
   go_region_held3 (fun z=> z.cell? ⟨g7,2,none⟩=some (.slice (some ⟨g,0,none⟩) s.length c)/\z.cell? ⟨w.heap.size,2,none⟩=some (.slice (some ⟨b,o,none⟩) s.length ct)/\z.cell? ⟨b1,o1,none⟩=some (j0 m)/\z.cell? ⟨b,o+m*3,none⟩=some (j0 P)/\z.cell? ⟨b,o+m*3+1,none⟩=some (j0 T)/\z.cell? ⟨b,o+m*3+2,none⟩=some (.slice A2 y17.length c2)/\z.cell? ⟨w.heap.size+1,0,none⟩=some (j0 K)/\z.cell? ⟨w.heap.size+1,1,none⟩=some (j0 I)/\z.cell? ⟨w.heap.size+1,2,none⟩=some (.slice X us.length Q))
    (first|exact Gu.out _ (fun y h1 h2=> by rw[aM _ _ _ _ h2,aM _ _ _ _ h2,aM _ _ _ _ h2];exact N.heap y h1) |exact Gu.out _ (fun y h1 _=> N.heap y h1) |exact Gu.out _ (fun y h1 _=> X7.heap y h1))
    (first|(go_at_call 175;(try rw[HAD.out]);refine(ih _ _ (d - 1) Iw C D.drew _ _ S (fun y l=> hS7 y l) (InT.mono (fun _ h=> h) (fun y l=>(R.trans X7).heap y (hS y l)) J8) (InT.mono (fun _ h=> h) (fun y l=>(R.trans X7).heap y (hS y l)) Hc) _ _ _ (hpt.ext (R.trans X7)) (by omega) (by omega)).mono ?_;rintro e w8 ⟨x,rfl,Kj,e8⟩;have N:Ext D w8:=X7.trans e8;have Cf:=Kj;obtain⟨x1,x2,x3,x4,x5,rfl⟩:=InT.three Cf;clear Cf;obtain⟨u0,u1,u2,r0,r1,r2,f0,f1,f2⟩:=Mk (i:=m*3) (N.blk Y) (by omega)))
   clear u0 u1 u2 r0 r1 r2 f0 f1 f2 Gu X7 e8 HAD;have Fe:=b6 (b6 (b6 (N.blk Y) (m*3) (j0 x1)) (m*3+1) (j0 x2)) (m*3+2) (.slice x3 x4 x5);have keep: ∀y,y≠g->(((w8.setCell ⟨g,m*3,none⟩ (j0 x1)).setCell ⟨g,m*3+1,none⟩ (j0 x2)).setCell ⟨g,m*3+2,none⟩ (.slice x3 x4 x5)).heap[y]? =w8.heap[y]? :=fun y l=> by rw[aM _ _ _ _ l,aM _ _ _ _ l,aM _ _ _ _ l]
   have Lb:(((w8.setCell ⟨g,m*3,none⟩ (j0 x1)).setCell ⟨g,m*3+1,none⟩ (j0 x2)).setCell ⟨g,m*3+2,none⟩ (.slice x3 x4 x5)).heap.size=w8.heap.size:=by simp
   have Dp:Ext w (((w8.setCell ⟨g,m*3,none⟩ (j0 x1)).setCell ⟨g,m*3+1,none⟩ (j0 x2)).setCell ⟨g,m*3+2,none⟩ (.slice x3 x4 x5)):=(((R.trans N).setCell (p:=⟨g,m*3,none⟩) (by show w.heap.size<=g;omega) _).setCell (p:=⟨g,m*3+1,none⟩) (by show w.heap.size<=g;omega) _).setCell (p:=⟨g,m*3+2,none⟩) (by show w.heap.size<=g;omega) _;obtain⟨w9,hw9⟩: ∃x,x=(((w8.setCell ⟨g,m*3,none⟩ (j0 x1)).setCell ⟨g,m*3+1,none⟩ (j0 x2)).setCell ⟨g,m*3+2,none⟩ (.slice x3 x4 x5)):=⟨_,rfl⟩;rw[<-hw9] at Fe keep Lb Dp⊢;clear hw9;have hs78:=N.size;have bn9:=(keep g7 J).trans (N.blk L);have Ko:=(keep (w.heap.size+1+1) (by omega)).trans (N.blk (Z.blk hbr));have Rn9:W1 w9 (fun y=> S y\/w.heap.size+3<=y/\y < w9.heap.size) cs.toList s:=Rn.mono (fun y l=> .inl l) (fun y l=>(keep y (by have:=hS y l;omega)).trans (N.heap y (hS7 y l)));have Cf:InT w9 (fun y=> S y\/w.heap.size+3<=y/\y < w9.heap.size) (M9 (.mk P T y17) r (.mk K I us)) (m0 x1 x2 x3 x4 x5):=InT.mono (fun y l=> by
    rcases l with l|l
    · exact .inl l
    · have h9:D.heap.size<=y:=l.1
      have h8:=l.2;exact .inr ⟨by omega,by omega⟩) (fun y l=> keep y (by
    rcases l with l|l
    · have:=hS y l;omega
    · have h9:D.heap.size<=y:=l.1
      omega)) Kj
   have hR9:=W1.set Cf m Rn9;have hK9:=W1.inL Fe (pre:= []) hR9 (by simp[Array.toList_setIfInBounds]);have HK9:=hdq hK9;have HKP:=hdq Dp;obtain⟨y0,y1,y2,-,-,-⟩:=own3 bn9;obtain⟨s0,s1,s2,f0,f1,f2⟩:=own3 Ko;have hwg:w.heap.size+1+1 < w9.heap.size:=D1 Ko;have hgg:g < w9.heap.size:=D1 Fe;clear keep Dp hK9 hR9 Cf Rn9 Rn Y Fe L bn9 Ko Kj H Je hbr Eg;go_wp2_with fail;refine aQ (v:= m0 k B (some ⟨g,0,none⟩) s.length c) (by simp[aS,results175,go_sem,s0,s1,s2]) rfl ⟨_,rfl, ?_, ?_⟩
   · refine InT.mk_iff.2 ⟨some ⟨g,0,none⟩,c,by rw[gZ],by rw[gZ];exact hc1,Mg,.inr ⟨g,0,rfl,.inr ⟨by omega,by simpa using hgg⟩, ?_⟩⟩
     refine d5.mono (S:=fun y=> S y\/w.heap.size+3<=y/\y < w9.heap.size) (fun y l=> ?_) (fun y l=> ?_) (.inr ⟨by omega,hgg⟩) HK9.out
     · rcases l with l|l
       · exact .inl l
       · exact .inr ⟨by omega,by simpa using l.2⟩
     · have hne:y≠w.heap.size+1+1:=by
        rcases l with l|l
        · have:=hS y l;omega
        · omega
       rw[aM _ _ _ _ hne,aM _ _ _ _ hne,aM _ _ _ _ hne]
   · exact((HKP.out.setCell (by show w.heap.size<=w.heap.size+1+1;omega) _).setCell (by show w.heap.size<=w.heap.size+1+1;omega) _).setCell (by show w.heap.size<=w.heap.size+1+1;omega) _)
theorem O4.rowL{w:aN}{e:TypeId}{S:Nat->Prop}: ∀{c:List aU} {d:List Tr} {L:List Nat},O4 w e c d L->(∀b,b∈L->S b)->W1 w S c d
 |_, [],_,_,_=> W1.nil
 |c,t::ts,L,h,hS=> by
  obtain⟨v0,v1,v2,rest,i,j,rfl,g,f,rfl⟩:=O4.cons_iff.1 h;exact W1.cons_iff.2 ⟨v0,v1,v2,rest,rfl,g.inT.mono (fun b a=> hS b (by simp[a])) (fun _ _=> rfl),O4.rowL f (fun b a=> hS b (by simp[a]))⟩
theorem Y5.toS{W w:aN}{e:TypeId}{v:aU}{d:List Tr}(h:Y5 W w e v d):ja (fun b=> b < W.heap.size) W w e v d:=by
 obtain⟨f,L,k,g,c,j⟩:=h;exact⟨f,k,g.rowL (fun b a=>⟨(c.2 b a).2,fun i=> j b i a,by have:=(c.2 b a).1;omega⟩)⟩
theorem VI(k n:Int)(a:List Tr)(w:aN)(v:aU)(d6:Lies w (.mk k n a) v)(P9:cnt (.mk k n a)<=1000000):
 aY prog 46 #[v] w fun e l=> ∃B c,e= .returned (m0 k n B a.length c)/\(∃D:aN,w.heap.size<=D.heap.size/\ja (fun b=> b < D.heap.size) D l 25 (.slice B a.length c) a/\D.heap.size<=l.heap.size)/\Ext w l:=by
 obtain⟨A,cap,rfl,hl,hc,hK⟩:=Lies.mk_iff.1 d6;obtain⟨i0,hi,N,P,J⟩:=info_parts UB;have t:=hc;unfold aW at t;simp only[cnt] at P9;have hlc:=Tg a;go_enter func46,ntmps46;go_wp2_with fail;obtain⟨d,m⟩: ∃d,d=(w.alloc (D0 k n A a.length cap)).alloc M0:=⟨_,rfl⟩;obtain⟨W,r⟩: ∃W,W=d.alloc (D0 k n none 0 0):=⟨_,rfl⟩;have I:d.heap.size=w.heap.size+1+1:=by rw[m];simp
 have om:W.heap.size=w.heap.size+3:=by rw[r];simp;omega
 have C0:Ext w d:=m▸((xr w).alloc _).alloc _;have dy:Ext d W:=r▸(xr d).alloc _;have F6:d.heap[w.heap.size+1]? =some M0:=by
  rw[m];exact(blk2 (xr _)).2.1
 have gp:W.heap[w.heap.size+1+1]? =some (D0 k n none 0 0):=by
  have:=aT d (D0 k n none 0 0);rw[I] at this;rw[r];exact this
 have U:d.heap[w.heap.size]? =some (D0 k n A a.length cap):=by
  rw[m];exact(blk2 (xr _)).1
 rw[<-m,<-r];clear r m
 go_loopw [4] (fun i wr=> ∃(j:Nat) (v:aU),j<=a.length/\i= j0 j/\wr.heap[w.heap.size+1+1]? =some (.cells #[j0 k,j0 n,v] 25 (0,0))/\Y5 W wr 25 v (a.take j)/\Ext d wr/\W.heap.size<=wr.heap.size) (fun i _=> a.length -(intOf i).toNat)
 case atStart=> exact⟨0,_,cO _,rfl,gp,Y5.nil _ _ _,dy,aP _⟩
 case round=>
  obtain⟨j,v,hj,rfl,E,hG,g,s⟩:=hrel;by_cases z:j < a.length
  · obtain⟨b,o,k',n',A',T,kids,rfl,HK,c0,c1,c2,I7,I6,hK',x9,i7⟩:=hK.get (C0.trans g) z
    have I1:=List.take_append_getElem z;rw[HK.out] at I1;have hcm:=ya i7;have y:(a.take j).length < 1099511627776:=by rw[dQ];omega
    have Z:(a.take j).length=j:=by rw[dQ];omega
    have HL:=hdq Z;have O:=g.blk U;obtain⟨-,-,t2,-,-,-⟩:=own3 O;have hj':(j:Int) <(a.length:Int):=by omega
    go_wp2_with fail;have J6:=s;have I5:=hG;have N2:=E;have hv:=E1 N2 2;have Y: ∀l,Below W.heap.size wr l->l.heap[w.heap.size+1+1]? =some (.cells #[j0 k,j0 n,v] 25 (0,0)):=fun l hB=>(hB.block (w.heap.size+1+1) (by omega)).trans N2
    have x:=hdq Y;have H:Ext wr wr.drew:=(xr wr).drew;have T9:=x9.ext H;have eu:=g;clear Y Z E hG g s t
    go_region_law (first|(go_simp;go_at_call 46;refine(Sf _ _ _ T9 (by omega)).mono ?_;rintro e w4 ⟨u,rfl,K,F⟩;obtain⟨a1,a2,a3,a4,a5,rfl⟩:=K.three';have q:=E1 (x.out _ ((H.trans F).below J6)) 2;have kh:=bY _ _ q) |(refine ED _ (by rfl) (.tmp 18) (.tmp 25) _ (by rfl) 25 i0 _ underlying23 hi N P J rfl (by rfl) I5 J6 (H.trans F) (K.since (aP _)) ((xr _).alloc _) (by rfl) (aT _ _) y ?_;intro v' V M C;obtain⟨Q,G,rfl,X,q2,-⟩:=M.made;have ln:=E1 (x.out _ C) 2;have un:=mc (x.out _ C) 2))
    all_goals(
     have X6:Ext d V:=eu.trans' C (by omega);have hs5:=C.size;have cn:=x.out _ C;rw[List.length_append,List.length_singleton,I1,show(a.take j).length+1=min (j+1) a.length from by rw[dQ];omega] at M;have jq:=fun u=> M.after ((Ua.refl W.heap.size V).setCell (p:=⟨w.heap.size+1+1,2,none⟩) (by show w.heap.size+1+1 < W.heap.size;omega) u)
     clear q kh hv x K F c0 c1 c2 t2;go_wp2_with fail
     go_roundw
     case rel=> exact⟨j+1,_,by omega,by go_num,b6 cn 2 _,jq _,X6.setCell (by show _<=w.heap.size+1+1;omega) _,by simp;omega⟩
     case measure=> simp[intOf];omega)
  · obtain⟨Q,G,rfl,X,q2,ap⟩:=hG.made
    have S:=hG.toS;have L:j=a.length:=by omega
    have R:(a.take j).length=a.length:=by rw[L,jP]
    obtain⟨r0,r1,r2,-,-,-⟩:=own3 E;have O:=g.blk U;obtain⟨-,-,t2,-,-,-⟩:=own3 O;have P4:=g.blk F6;obtain⟨s0,s1,s2,f0,f1,f2⟩:=own3 P4;rw[R] at X r2;rw[show a.take j=a from by rw[L,jP]] at ap;rw[R] at S;clear R E;go_wp2_with fail;refine aQ (v:= m0 k n Q a.length G) (by simp[aS,results46,go_sem,s0,s1,s2]) rfl ⟨Q,G,rfl,⟨W,by omega, ?_,by simp;omega⟩, ?_⟩
    · rw[show a.take j=a from by rw[L,jP]] at S
      exact((S.only (i1.one _ (w.heap.size+1) 0 _) (by intro b f;rw[List.mem_singleton.1 f];omega) (fun b f=> f)).only (i1.one _ (w.heap.size+1) 1 _) (by intro b f;rw[List.mem_singleton.1 f];omega) (fun b f=> f)).only (i1.one _ (w.heap.size+1) 2 _) (by intro b f;rw[List.mem_singleton.1 f];omega) (fun b f=> f)
    · exact((((C0.trans g).setCell (by simp) _).setCell (by simp) _).setCell (by simp) _)
end Go.Proofs.YtckhbnmfnpolgaaGreat
namespace Go.Proofs.YtckhbnmfnpolgaaGreat
open Go.RowKit
def conA(t:Tr)(p:List Int):Tr:=match Qa t p with
 |some u=> M9 t p (ctrT u)
 |none=> D2
def Yb(t:Tr)(p:List Int):Bool:=match Qa t p with
 |some u=> Xf u
 |none=> false
def Ue(t:Tr)(p:List Int):Tr×Bool:=if valid sigT (conA t p)=true then(conA t p,true) else(D2,false)
def ik(t:Tr):Tr×Int:=match outT t with
 |none=>(t,0)
 |some p=> if valid sigT (conA t p)=true then(conA t p,1) else(D2,2)
def P5:Nat->Tr->Tr×Int
 |0,t=> match outT t with
  |none=>(t,0)
  |some _=>(D2,1)
 |f+1,t=> match outT t with
  |none=>(t,0)
  |some p=> if valid sigT (conA t p)=true then P5 f (conA t p) else(D2,2)
def Ze(t:Tr)(f:Int):Tr×Int:=if(valid sigT t && ac f 0 200)=true then P5 f.toNat t else(D2,3)
def ge(a b:Tr)(f:Int):Int:=if(valid sigT a &&(valid sigT b && ac f 0 200))=true then(if a=b then 1 else if(P5 f.toNat a).2=0/\(P5 f.toNat b).2=0 then(if(P5 f.toNat a).1=(P5 f.toNat b).1 then 1 else 2) else 3) else 0
theorem Rw{t:Tr}{p:List Int}(h:Yb t p=true): ∃u,Qa t p=some u/\Xf u=true:=by
 unfold Yb at h;cases e:Qa t p with
 |none=> rw[e] at h;cases h
 |some u=> rw[e] at h;exact⟨u,rfl,h⟩
theorem Bx{k n:Int}{a:List Tr}:Xf (.mk k n a)=true↔rdx k a≠0:=by simp[Xf,J4]
theorem II{a:List Tr}: ∀{i:Nat} {x:Tr},Par (kd a i) x->K6 a (a.set i x):=by
 induction a with
 |nil=> intro i x _;exact .nil
 |cons t ts ih=>
  intro i x h;cases i with
  |zero=> exact .cons h (K6.refl ts)
  |succ i=> exact .cons (Par.refl t) (ih h)
theorem eB: ∀(p:List Int) (t u a:Tr),Qa t p=some u->Par u a->Par t (M9 t p a)
 | [],t,u,a,h,b=> by
  have e:t=u:=by cases t;simpa[Qa] using h
  subst e;rw[fC];exact b
 |i::r,.mk k n c,u,a,h,b=> by
  rw[Qa] at h
  split at h
  · rw[M9]
    exact .node (II (eB r _ u a h b))
  · cases h
theorem go{u:Tr}(h:Xf u=true):Par u (ctrT u):=by
 obtain⟨k,n,a⟩:=u;exact .red (Bx.1 h) (K6.refl a)
theorem MA{t:Tr}{p:List Int}(h:Yb t p=true):Par t (conA t p):=by
 obtain⟨u,a,b⟩:=Rw h;unfold conA;rw[a];exact eB p t u _ a (go b)
mutual
theorem Vq: ∀(t:Tr) (p:List Int),outT t=some p->Yb t p=true
 | .mk k n a,p,h=> by
  rw[outT] at h
  split at h
  · obtain⟨j,r,rfl,d,b⟩:=gD a 0 p h
    unfold Yb at b⊢;rw[Qa,if_pos ⟨by omega,by omega⟩];rw[show(((0+j:Nat):Int)).toNat=j by omega];exact b
  · rename_i c
    cases h
    unfold Yb;rw[show Qa (.mk k n a) []=some (.mk k n a) from rfl];exact Bx.2 c
theorem gD: ∀(a:List Tr) (i:Nat) (p:List Int),rd i a=some p-> ∃(j:Nat) (r:List Int),p=((i+j:Nat):Int)::r/\j < a.length/\Yb (kd a j) r=true
 | [],i,p,h=> by rw[rd] at h;cases h
 |t::ts,i,p,h=> by
  rw[rd] at h;cases e:outT t with
  |some q=>
   rw[e] at h;cases h
   exact⟨0,q,rfl,by simp,Vq t q e⟩
  |none=>
   rw[e] at h;obtain⟨j,r,rfl,c,b⟩:=gD ts (i+1) p h;exact⟨j+1,r,by rw[show i+1+j=i+(j+1) by omega],by simpa using c,b⟩
end
theorem wE: ∀(f:Nat) (t x:Tr),valid sigT t=true->P5 f t=(x,0)->i8 t x/\Om x=true/\valid sigT x=true
 |0,t,x,hv,h=> by
  unfold P5 at h;cases e:outT t with
  |none=>
   rw[e] at h;cases h
   have:=Ny t;rw[e] at this;exact⟨.refl _,by simpa using this.symm,hv⟩
  |some p=> rw[e] at h;cases h
 |f+1,t,x,hv,h=> by
  unfold P5 at h;cases e:outT t with
  |none=>
   rw[e] at h;cases h
   have:=Ny t;rw[e] at this;exact⟨.refl _,by simpa using this.symm,hv⟩
  |some p=>
   rw[e] at h;simp only at h
   split at h
   · rename_i hc
     obtain⟨b,a⟩:=wE f _ x hc h;exact⟨(i8.one (MA (Vq t p e))).trans b,a⟩
   · cases h
theorem IC{t u:Tr}{p:List Int}(h:valid sigT t=true)(e:Qa t p=some u):valid sigT u=true:=by
 obtain⟨b,c⟩:=N4 h;have d:=dF p t u e;have a:=vF p t u 30 b e;unfold valid;rw[Qz a (by omega),Bool.true_and,decide_eq_true_eq];omega
theorem MK{t:Tr}{p:List Int}{u:Tr}(h:Qa t p=some u)(hv:valid sigT (conA t p)=true):valid sigT (ctrT u)=true:=by
 unfold conA at hv;rw[h] at hv;exact IC hv (bC p t (ctrT u) u h).1
