/-
  Lemmas towards the law, 17: Put, CopyTop, DefG, RedP, Put3.
-/
import Derived.Test.YtckhbnmfnpolgaaGreatBAP
open List renaming getD_eq_getElem?_getD->dL,length_set->fZ,take_append_drop->gW,length_cons->bY,eq_nil_of_length_eq_zero->aZ,getElem_mem->gL,take_append_getElem->fP,length_take->cU,take_length->iN
open Go renaming World->aK,TypeId->aY,Value->aS,maxLen->aU,bodyPost_ret->aO,heap_alloc_new->aR
open Nat renaming le_refl->aM,zero_le->bT,lt_of_lt_of_le->aX
open Go.World renaming block_lt_of_cell?->bR,alloc->aN
open Go.RowKit.Below renaming heap_setCell->aL
open Go.Value.slice renaming injEq->iU
open Go.Proofs.Tryz
set_option linter.unusedVariables false
set_option maxHeartbeats 4000000
set_option maxRecDepth 100000
namespace Go.Proofs.YtckhbnmfnpolgaaGreat
open Go.RowKit
attribute [local go_sem ↓] Go.wp_at_zero Go.wp_at_succ
def F8:Tr->List Int->Tr->Tr
 |_, [],u=> u
 | .mk k n a,i::r,u=> .mk k n (a.set i.toNat (F8 (kd a i.toNat) r u))
theorem zC(t u:Tr):F8 t [] u=u:=by cases t;rfl
theorem Wj{a:List Tr}{i:Nat}(h:i < a.length)(x:Tr):kd (a.set i x) i=x:=by
 unfold kd;rw[dL,List.getElem?_set_self h]
 rfl
theorem Zs{a:List Tr}{i:Nat}(h:i < a.length):a.set i (kd a i)=a:=by
 unfold kd;rw[dL,List.getElem?_eq_getElem h];exact List.set_getElem_self h
theorem YA: ∀(p:List Int) (t u o:Tr),ea t p=some o->ea (F8 t p u) p=some u/\F8 (F8 t p u) p o=t
 | [],t,u,o,h=> by
  have e:t=o:=by cases t;simpa[ea] using h
  subst e;rw[zC,zC];exact⟨by cases u;rfl,rfl⟩
 |i::r,.mk k n a,u,o,h=> by
  rw[ea] at h
  split at h
  · rename_i hi
    obtain⟨b,c⟩:=YA r (kd a i.toNat) u o h;have hl:i.toNat < a.length:=by omega
    rw[F8,ea,fZ,if_pos hi,Wj hl,F8,Wj hl,c,List.set_set,Zs hl];exact⟨b,rfl⟩
  · cases h
theorem MB: ∀{ks:List Tr} {i:Nat} (h:i < ks.length) (x:Tr),W1 (ks.set i x)+cnt (kd ks i)=W1 ks+cnt x
 |t::ts,0,h,x=> by simp[kd,W1];omega
 |t::ts,i+1,h,x=> by
  have:=MB (ks:=ts) (i:=i) (by simpa using h) x;rw[MA,List.set_cons_succ,W1,W1];omega
theorem kB: ∀(p:List Int) (t u o:Tr),ea t p=some o->cnt (F8 t p u)+cnt o=cnt t+cnt u
 | [],t,u,o,h=> by
  have e:t=o:=by cases t;simpa[ea] using h
  subst e;rw[zC];omega
 |i::r,.mk k n a,u,o,h=> by
  rw[ea] at h
  split at h
  · rename_i hi
    have b:=kB r (kd a i.toNat) u o h;have c:=MB (ks:=a) (i:=i.toNat) (by omega) (F8 (kd a i.toNat) r u);rw[F8,cnt,cnt];omega
  · cases h
theorem j88{P:Program}(w:aK){ops:Array Oper}{rest:List Oper}{o:Oper}{a:Act}{Q:Exit->Act->aK->Prop}(p:o.guard=none)(s x:Operand)(t:aY)
 (N:o.op= .call {callee:= .builtin .append,args:=#[s,x],argTypes:=#[t,t]})
 (base:Nat) (e:aY) (i:TypeInfo) (z:aS) (ht:P.underlying t=some (.slice e)) (hi:P.info? e=some i) (H:i.zero=some z) (f:i.size=3) (A:i.bytes=40) (y:z.cells.size=3)
 {v:aS} {C o0 cap:Nat} {c:List Tr} (hs:a.eval s=v) (m:w.ownsRow base e 3 v 0 []) (d:base<=w.heap.size) (hx:a.eval x= .slice (some ⟨C,o0,none⟩) c.length cap) {S:Nat->Prop} (hS: ∀b,S b->b < w.heap.size/\v.ownBlock≠some b) (hK:O4 w S C o0 c) (hn:c.length<=1048576) (W:0 < c.length)
 (h: ∀(l g:Nat) (cs:Array aS) (k:aK),k.heap[g]? =some (.cells cs e (0,0))->base<=g->c.length*3<=cs.size->W0 k S cs.toList c->c.length<=l->l<=aU->w.grownBy k v.ownBlock->wpList P ops Q rest (a.put o.dst (.slice (some ⟨g,0,none⟩) c.length l)) k):wpList P ops Q (o::rest) a w:=by
 refine wpList_plain p fun K B=> ?_
 obtain⟨T,I,M,V,U⟩:=hK.rowL;obtain⟨Y,k,hr,D,G,Z⟩:=Mn (P:=P) w base t o.type e i z 3 40 ht hi H f A y (by decide) v 0 [] m ⟨C,o0,none⟩ c.length cap T I (fun j u J=> by rw[Addr.add_lit];exact M j u J) V (by unfold aU;omega) (by omega) d;rw[Nat.zero_add,List.nil_append] at D;unfold Oper.wp execOp;simp only[N,resolve,invoke,builtin,Sem.run_bind,Sem.run_pure,Result.andThen_ok,List.map_toArray,List.map_cons,List.map_nil,hs,hx,hr];rcases D.2 with⟨-,X⟩ |⟨g,l,cs,rfl,n,L,E,q,r,R⟩
 · omega
 · refine B _ _ (h l g cs k L n (by rw[r];exact Nat.mul_le_mul_right _ E) ?_ E q G)
   have F:=W0.tail (cs.toList.drop (c.length*3)) (U.mono (fun _ h=> h) (fun b n=> G.block b (hS b n).1 (fun O=>(hS b n).2 O.symm)));rw[<-R,gW] at F;exact F
theorem JH:(prog.info? 25).map (fun i=>(i.zero,i.size,i.bytes))=some (some (.agg #[.int .i64 0,.int .i64 0,.slice none 0 0]),3,40):=by kernel_rfl
theorem mG(a:List Tr)(w:aK)(S:Nat->Prop)(hS: ∀b,S b->b < w.heap.size)(b o cap:Nat)(C:S b)(hK:O4 w S b o a)(hn:a.length<=1048576)(q:0 < a.length):Calls prog 179 #[.slice (some ⟨b,o,none⟩) a.length cap] w fun e d=>
 ∃(c g:Nat) (cs:Array aS),e= .returned (.slice (some ⟨g,0,none⟩) a.length c)/\d.heap[g]? =some (.cells cs 25 (0,0))/\w.heap.size<=g/\a.length*3<=cs.size/\W0 d S cs.toList a/\a.length<=c/\c<=aU/\Ext w d:=by
 obtain⟨A,hi,m,i,l⟩:=info_parts JH;have hx:=(xr w).alloc (.cells #[] 25);have f:O4 (w.alloc (.cells #[] 25)) S b o a:=O4.mono (fun _ h=> h) (fun x j=> hx.heap x (hS x j)) C hK;have hG:(w.alloc (.cells #[] 25)).ownsRow w.heap.size 25 3 (.slice (some ⟨w.heap.size,0,none⟩) 0 0) 0 []:=World.ownsRow_lit w #[] 0 (aM _) (bT _) rfl;have p: ∀W,(binOp .eql 23 (.slice (some ⟨b,o,none⟩) a.length cap) (.slice none 0 0)).run prog W= .ok (.bool false) W:=fun W=> Lib.run_eql_slice_nil W 23 _ (some ⟨b,o,none⟩) a.length cap 0 0 underlying23
 clear hK;go_enter func179,ntmps179;go_wp2_with (at_builtin;refine j88 _ rfl (.tmp 5) (.tmp 6) 23 rfl w.heap.size 25 A _ underlying23 hi m i l rfl (S:=S) (v:= .slice (some ⟨w.heap.size,0,none⟩) 0 0) rfl hG (by simp) rfl (fun y n=>⟨by have z:y < w.heap.size:=hS y n;simp;omega,by have z:y < w.heap.size:=hS y n;simp[Value.ownBlock];omega⟩) f hn q ?_)
 intro c g cs d s D E B r t F;have u:Ext w d:=hx.grown F (by intro k hk;simp[Value.ownBlock] at hk;omega);go_wp2_with fail;go_ret;exact⟨c,g,cs,rfl,s,D,E,B,r,t,u⟩
structure Qi (w:aK) (A:Option Addr) (n cap:Nat) (p:List Int):Prop where
 hn:p.length=n
 hl:n<=cap
 hc:cap<=aU
 hP:Qa w A p
theorem Qi.ext{w a:aK}{A:Option Addr}{n cap:Nat}{p:List Int}(h:Qi w A n cap p)(b:Ext w a):Qi a A n cap p:=⟨h.hn,h.hl,h.hc,h.hP.ext b⟩
theorem Qi.tail{w:aK}{b o n cap:Nat}{i:Int}{r:List Int}(h:Qi w (some ⟨b,o,none⟩) n cap (i::r)):Qi w (if cap=1 then some ⟨b,o,none⟩ else some ⟨b,o+1,none⟩) (n - 1) (cap - 1) r:=by
 obtain⟨f,m,p,c⟩:=h;simp only[bY] at f;refine⟨by omega,by omega,by omega, ?_⟩;by_cases hc:cap=1
 · exact .inl (aZ (by omega))
 · rw[if_neg hc]
   rcases c with c|⟨k,l,d,g,a⟩
   · cases c
   · simp only[Option.some.injEq,Addr.mk.injEq,and_true] at d
     obtain⟨rfl,rfl⟩:=d;refine .inr ⟨b,o+1,rfl,g,fun j e=> ?_⟩;have:=a (j+1) (by simpa using e)
     rwa [show o+(j+1)=o+1+j by omega] at this
def UE(p:List Int):Prop:= ∀(t u:Tr) (d:Int),D0 m0 t d=true->(ea t p).isSome=true-> ∀(w:aK) (f c:aS) (S:Nat->Prop),(∀b,S b->b < w.heap.size)->InT w S t f->InT w S u c-> ∀(A:Option Addr) (n cap:Nat),Qi w A n cap p->n<=1000->cnt t<=1000000->
 Calls prog 175 #[f,.slice A n cap,c] w fun e a=> ∃x,e= .returned x/\InT a (fun b=> S b\/w.heap.size<=b/\b < a.heap.size) (F8 t p u) x/\Ext w a
theorem Qm: ∀p:List Int,UE p:=fun p=> by
 induction p with
 |nil=>
  intro t u d hsh C w vt vu S hS hT hU A n cap hp P4 C7;obtain⟨k,B,s⟩:=t;obtain⟨At,ct,rfl,hlt,l8,yf⟩:=InT.mk_iff.1 hT;obtain⟨I,K,us⟩:=u;have Fj:=hU;obtain⟨W,Q,rfl,Et,lr,hKu⟩:=InT.mk_iff.1 hU;have M4:n=0:=hp.hn.symm;subst M4;have J:=(((xr w).alloc (.cells #[.int .i64 k,.int .i64 B,.slice At s.length ct] 25)).alloc (.cells #[.int .i64 I,.int .i64 K,.slice W us.length Q] 25)).alloc (.cells #[.int .i64 0,.int .i64 0,.slice none 0 0] 25);obtain⟨G,hb1,hb2,hs2⟩:=mc (xr (((w.alloc (.cells #[.int .i64 k,.int .i64 B,.slice At s.length ct] 25)).alloc (.cells #[.int .i64 I,.int .i64 K,.slice W us.length Q] 25)).alloc (.cells #[.int .i64 0,.int .i64 0,.slice none 0 0] 25)));go_enter func175,ntmps175;go_wp2_with fail;rw[zC];refine aO (v:= .agg #[.int .i64 I,.int .i64 K,.slice W us.length Q]) (by simp[results,results175,go_sem]) rfl ⟨_,rfl, ?_, ?_⟩
  · exact InT.mono (fun b hb=> .inl hb) (fun b hb=>((((xr w).alloc _).alloc _).alloc _).heap b (hS b hb)) Fj
  · exact(((xr w).alloc _).alloc _).alloc _
 |cons i r ih=>
  intro t u d hsh C w vt vu S hS hT hU A n cap hp P4 C7;obtain⟨k,B,s⟩:=t;obtain⟨At,ct,rfl,hlt,l8,yf⟩:=InT.mk_iff.1 hT;obtain⟨I,K,us⟩:=u;have Fj:=hU;obtain⟨W,Q,rfl,Et,lr,hKu⟩:=InT.mk_iff.1 hU;have M4:n=r.length+1:=by have:=hp.hn;simpa using this.symm
  obtain⟨b1,o1,rfl,cp⟩:=hp.hP.get (xr w) (j:=0) (by simp);simp only[List.getElem_cons_zero,Nat.add_zero] at cp;have hi:0<=i/\i < s.length:=by
   rw[ea] at C
   split at C
   · assumption
   · cases C
  rw[ea,if_pos hi] at C;obtain⟨m,rfl⟩:=Int.eq_ofNat_of_zero_le hi.1;have hm:m < s.length:=by omega
  have Hs:((m:Int)).toNat=m:=by omega
  rw[Hs] at C;have R:F8 (.mk k B s) ((m:Int)::r) (.mk I K us)= .mk k B (s.set m (F8 (kd s m) r (.mk I K us))):=by rw[F8,Hs]
  rw[R];obtain⟨b,o,O,P,A2,c2,q17,rfl,qm,Cj,d0,d1,d2,dv,dc,hK2⟩:=InK.at_ yf hm;have C9:kd s m= .mk O P q17:=Od hm Cj;obtain⟨-,-,-,hsk⟩:=Qu hsh;have Gr:D0 m0 (.mk O P q17) (d - 1)=true:=by have:=hsk _ (gL hm);rwa [Cj] at this
  have J0:InT w S (.mk O P q17) (.agg #[.int .i64 O,.int .i64 P,.slice A2 q17.length c2]):=InT.mk_iff.2 ⟨A2,c2,rfl,dv,dc,hK2⟩;have hcm:cnt (.mk O P q17)<=W1 s:=by have:=L9 (gL hm);rwa [Cj] at this
  simp only[cnt] at C7;rw[C9] at C⊢;have Aq:O4 w S b o s:=by
   rcases yf with h|⟨b',o',he,-,hh⟩
   · subst h;simp at hm
   · simp only[Option.some.injEq,Addr.mk.injEq,and_true] at he
     obtain⟨rfl,rfl⟩:=he;exact hh
  have hlc:=kf s;have Cy:=hS b qm;have hb1w:b1 < w.heap.size:=bR _ _ cp;have J:=(((xr w).alloc (.cells #[.int .i64 k,.int .i64 B,.slice (some ⟨b,o,none⟩) s.length ct] 25)).alloc (.cells #[.int .i64 I,.int .i64 K,.slice W us.length Q] 25)).alloc (.cells #[.int .i64 0,.int .i64 0,.slice none 0 0] 25);obtain⟨G,Gz,hbr,hs2⟩:=mc (xr (((w.alloc (.cells #[.int .i64 k,.int .i64 B,.slice (some ⟨b,o,none⟩) s.length ct] 25)).alloc (.cells #[.int .i64 I,.int .i64 K,.slice W us.length Q] 25)).alloc (.cells #[.int .i64 0,.int .i64 0,.slice none 0 0] 25)));have hpt:=hp.tail;have hcpb:n<=cap:=hp.hl;have Ke:cap<=aU:=hp.hc;unfold aU at Ke;obtain⟨AD,Gq⟩: ∃AD,(if cap=1 then some (⟨b1,o1,none⟩:Addr) else some ⟨b1,o1+1,none⟩)=AD:=⟨_,rfl⟩;rw[Gq] at hpt;have HAD:=hdq Gq;have hnz:((n:Int)==0)=false:=beq_eq_false_iff_ne.2 (by omega);have hnz2:(n==0)=false:=beq_eq_false_iff_ne.2 (by omega);have Ck:(0:Int) <(n:Int):=by omega
  have wo:(1:Int)<=(n:Int):=by omega
  have hn6:0 < n:=by omega
  have hn7:1<=n:=by omega
  have hn8:1<=cap:=by omega
  have Dk:(1:Int)<=(cap:Int):=by omega
  have hn5:(n:Int)<=(cap:Int):=by omega
  have hm2:(m:Int) <(s.length:Int):=by omega
  have hm3:(0:Int)<=(m:Int):=by omega
  clear Gq R hsk Cj Hs hi M4 hT hU C9;go_enter func175,ntmps175;go_wp2_with fail;generalize aN (aN (aN w _) _) _=q at J G Gz hbr hs2⊢;obtain⟨z0,z1,z2,-,-,-⟩:=own3 G;have qw:=hdq (show∀z,Ext q z->z.cell? ⟨w.heap.size,0,none⟩=some (.int .i64 k)/\z.cell? ⟨w.heap.size,1,none⟩=some (.int .i64 B)/\z.cell? ⟨w.heap.size,2,none⟩=some (.slice (some ⟨b,o,none⟩) s.length ct) from fun z hw=>⟨hw.cell z0,hw.cell z1,hw.cell z2⟩);have L:Ext q q.drew:=(xr q).drew;have Co: ∀y,S y->y < q.heap.size:=fun y l=> by have:=hS y l;have:=J.size;omega
  have Jt:O4 q S b o s:=O4.mono (fun _ h=> h) (fun y l=> J.heap y (hS y l)) qm Aq;have ql: ∀V,Ext q V->O4 V S b o s:=fun V hV=> O4.mono (fun _ h=> h) (fun y l=> hV.heap y (Co y l)) qm Jt
  have Ak:=hdq ql;clear ql z0 z1 z2
  go_region_held3 (fun z=> z.cell? ⟨w.heap.size,0,none⟩=some (.int .i64 k)/\z.cell? ⟨w.heap.size,1,none⟩=some (.int .i64 B)/\z.cell? ⟨w.heap.size,2,none⟩=some (.slice (some ⟨b,o,none⟩) s.length ct))
   (first|exact qw.out _ (((T.setCell (p:=⟨q.heap.size,0,none⟩) (aM _) _).setCell (p:=⟨q.heap.size,1,none⟩) (aM _) _).setCell (p:=⟨q.heap.size,2,none⟩) (aM _) _) |exact qw.out _ (T.alloc _) |exact qw.out _ T|exact qw.out _ L|exact qw.out _ (L.alloc _) |exact qw.out _ ((xr q).alloc _).drew)
   (first|(go_at_call 179;refine(mG s _ S (fun y l=> aX (Co y l) (Ext.size (by first|exact L|exact L.alloc _|exact((xr q).alloc _).drew))) b o ct qm (Ak.out _ (by first|exact L|exact L.alloc _|exact((xr q).alloc _).drew)) (by omega) (by omega)).mono ?_;rintro e E ⟨c,g,cs,rfl,F,W8,hcs,Ew,hc1,Gt,ed⟩;have T:Ext q E:=(by first|exact L.trans ed|exact(L.alloc _).trans ed|exact(((xr q).alloc _).drew).trans ed);(first|(have qb:E.heap[q.heap.size]? =some (.cells #[.int .i64 0,.int .i64 0,.slice none 0 0] 25 (0,0)):=ed.blk (aR q.drew (.cells #[.int .i64 0,.int .i64 0,.slice none 0 0] 25));have hgb:q.heap.size < g:=(by simp at W8;omega);obtain⟨sa,sb,sc,fa,fb,fc⟩:=own3 qb) |(have qb:E.heap[q.heap.size]? =some (.cells #[.int .i64 0,.int .i64 0,.slice none 0 0] 25 (0,0)):=ed.blk (aR q (.cells #[.int .i64 0,.int .i64 0,.slice none 0 0] 25));have hgb:q.heap.size < g:=(by simp at W8;omega);obtain⟨sa,sb,sc,fa,fb,fc⟩:=own3 qb) |(have qb:=trivial;have hgb:=trivial))))
  all_goals have hws:w.heap.size+3<=q.heap.size:=by omega
  all_goals have hgS:q.heap.size<=g:=by have h9:=W8;simp at h9;omega
  all_goals(first
   |(have en:Ext q (E.alloc (.cells #[.int .i64 k,.int .i64 B,.slice (some ⟨g,0,none⟩) s.length c] 25)):=T.alloc _;have N:=aR E (.cells #[.int .i64 k,.int .i64 B,.slice (some ⟨g,0,none⟩) s.length c] 25);have rn:=((xr E).alloc (.cells #[.int .i64 k,.int .i64 B,.slice (some ⟨g,0,none⟩) s.length c] 25)).blk F;have Rn:W0 (E.alloc (.cells #[.int .i64 k,.int .i64 B,.slice (some ⟨g,0,none⟩) s.length c] 25)) S cs.toList s:=Ew.mono (fun _ h=> h) (fun y l=> Below.heap_alloc E _ y (by have:=Co y l;have:=T.size;omega));have H:E.heap.size≠g:=(by have:=O1 F;omega);have gw:q.heap.size<=E.heap.size:=T.size;obtain⟨D,B0⟩: ∃x,x=E.alloc (.cells #[.int .i64 k,.int .i64 B,.slice (some ⟨g,0,none⟩) s.length c] 25):=⟨_,rfl⟩;rw[<-B0];rw[<-B0] at en N rn Rn;clear B0;obtain⟨g7,U⟩: ∃x,x=E.heap.size:=⟨_,rfl⟩;rw[<-U] at N H gw⊢;clear U)
   |(have en:Ext q (((E.setCell ⟨q.heap.size,0,none⟩ (.int .i64 k)).setCell ⟨q.heap.size,1,none⟩ (.int .i64 B)).setCell ⟨q.heap.size,2,none⟩ (.slice (some ⟨g,0,none⟩) s.length c)):=((T.setCell (p:=⟨q.heap.size,0,none⟩) (aM _) _).setCell (p:=⟨q.heap.size,1,none⟩) (aM _) _).setCell (p:=⟨q.heap.size,2,none⟩) (aM _) _;have N:=M6 (M6 (M6 qb 0 (.int .i64 k)) 1 (.int .i64 B)) 2 (.slice (some ⟨g,0,none⟩) s.length c);have rn:=bd (bd (bd F (p:=⟨q.heap.size,0,none⟩) (by show g≠q.heap.size;omega) (.int .i64 k)) (p:=⟨q.heap.size,1,none⟩) (by show g≠q.heap.size;omega) (.int .i64 B)) (p:=⟨q.heap.size,2,none⟩) (by show g≠q.heap.size;omega) (.slice (some ⟨g,0,none⟩) s.length c);have Rn:W0 (((E.setCell ⟨q.heap.size,0,none⟩ (.int .i64 k)).setCell ⟨q.heap.size,1,none⟩ (.int .i64 B)).setCell ⟨q.heap.size,2,none⟩ (.slice (some ⟨g,0,none⟩) s.length c)) S cs.toList s:=Ew.mono (fun _ h=> h) (fun y l=> by have h8:=Co y l;rw[aL _ _ _ _ (by show y≠q.heap.size;omega),aL _ _ _ _ (by show y≠q.heap.size;omega),aL _ _ _ _ (by show y≠q.heap.size;omega)]);have H:q.heap.size≠g:=(by omega);obtain⟨D,B0⟩: ∃x,x=(((E.setCell ⟨q.heap.size,0,none⟩ (.int .i64 k)).setCell ⟨q.heap.size,1,none⟩ (.int .i64 B)).setCell ⟨q.heap.size,2,none⟩ (.slice (some ⟨g,0,none⟩) s.length c)):=⟨_,rfl⟩;rw[<-B0];rw[<-B0] at en N rn Rn;clear B0;obtain⟨g7,U⟩: ∃x,x=q.heap.size:=⟨_,rfl⟩;have gw:q.heap.size<=g7:=(by rw[U];exact aM _);rw[<-U] at N H⊢;clear U))
  all_goals(
   try clear sa sb sc fa fb fc
   clear qb hgb T ed F Ew W8 L qw;have X:Ext w D:=J.trans en;obtain⟨y0,y1,y2,-,-,-⟩:=own3 N;obtain⟨-,-,t2,-,-,-⟩:=own3 (en.blk G);obtain⟨v0,v1,v2,-,-,-⟩:=own3 (en.blk Gz);have p0:=X.cell cp;have q0:=X.cell d0;have q1:=X.cell d1;have q2:=X.cell d2;have U:g7 < D.heap.size:=O1 N;have hgr:g < D.heap.size:=O1 rn;have Dj:=hdq (show∀z:aK,(∀y,y < D.heap.size->y≠g->z.heap[y]? =D.heap[y]?)->z.cell? ⟨g7,2,none⟩=some (.slice (some ⟨g,0,none⟩) s.length c)/\z.cell? ⟨w.heap.size,2,none⟩=some (.slice (some ⟨b,o,none⟩) s.length ct)/\z.cell? ⟨b1,o1,none⟩=some (.int .i64 m)/\z.cell? ⟨b,o+m*3,none⟩=some (.int .i64 O)/\z.cell? ⟨b,o+m*3+1,none⟩=some (.int .i64 P)/\z.cell? ⟨b,o+m*3+2,none⟩=some (.slice A2 q17.length c2)/\z.cell? ⟨w.heap.size+1,0,none⟩=some (.int .i64 I)/\z.cell? ⟨w.heap.size+1,1,none⟩=some (.int .i64 K)/\z.cell? ⟨w.heap.size+1,2,none⟩=some (.slice W us.length Q) from fun z hw=> by
    have f: ∀(y j:Nat) (x:aS),y < D.heap.size->y≠g->D.cell? ⟨y,j,none⟩=some x->z.cell? ⟨y,j,none⟩=some x:=fun y j x h1 h2 h3=>(World.cell?_of_block (a:=⟨y,j,none⟩) (hw y h1 h2)).trans h3
    exact⟨f _ _ _ U H y2,f _ _ _ (by omega) (by omega) t2,f _ _ _ (by omega) (by omega) p0,f _ _ _ (by omega) (by omega) q0,f _ _ _ (by omega) (by omega) q1,f _ _ _ (by omega) (by omega) q2,f _ _ _ (by omega) (by omega) v0,f _ _ _ (by omega) (by omega) v1,f _ _ _ (by omega) (by omega) v2⟩)
   have X7:Ext D D.drew:=(xr D).drew;have hS7: ∀y,S y->y < D.heap.size:=fun y l=> by have:=hS y l;omega
   go_wp2_with fail;clear y0 y1 y2 t2 v0 v1 v2 p0 q0 q1 q2
   go_region_held3 (fun z=> z.cell? ⟨g7,2,none⟩=some (.slice (some ⟨g,0,none⟩) s.length c)/\z.cell? ⟨w.heap.size,2,none⟩=some (.slice (some ⟨b,o,none⟩) s.length ct)/\z.cell? ⟨b1,o1,none⟩=some (.int .i64 m)/\z.cell? ⟨b,o+m*3,none⟩=some (.int .i64 O)/\z.cell? ⟨b,o+m*3+1,none⟩=some (.int .i64 P)/\z.cell? ⟨b,o+m*3+2,none⟩=some (.slice A2 q17.length c2)/\z.cell? ⟨w.heap.size+1,0,none⟩=some (.int .i64 I)/\z.cell? ⟨w.heap.size+1,1,none⟩=some (.int .i64 K)/\z.cell? ⟨w.heap.size+1,2,none⟩=some (.slice W us.length Q))
    (first|exact Dj.out _ (fun y h1 h2=> by rw[aL _ _ _ _ h2,aL _ _ _ _ h2,aL _ _ _ _ h2];exact M.heap y h1) |exact Dj.out _ (fun y h1 _=> M.heap y h1) |exact Dj.out _ (fun y h1 _=> X7.heap y h1))
    (first|(go_at_call 175;(try rw[HAD.out]);refine(ih _ _ (d - 1) Gr C D.drew _ _ S (fun y l=> hS7 y l) (InT.mono (fun _ h=> h) (fun y l=>(X.trans X7).heap y (hS y l)) J0) (InT.mono (fun _ h=> h) (fun y l=>(X.trans X7).heap y (hS y l)) Fj) _ _ _ (hpt.ext (X.trans X7)) (by omega) (by omega)).mono ?_;rintro e w8 ⟨x,rfl,Fv,e8⟩;have M:Ext D w8:=X7.trans e8;have xv:=Fv;obtain⟨x1,x2,x3,x4,x5,rfl⟩:=InT.three xv;clear xv;obtain⟨u0,u1,u2,r0,r1,r2,f0,f1,f2⟩:=oj (i:=m*3) (M.blk rn) (by omega)))
   clear u0 u1 u2 r0 r1 r2 f0 f1 f2 Dj X7 e8 HAD;have Cp:=M6 (M6 (M6 (M.blk rn) (m*3) (.int .i64 x1)) (m*3+1) (.int .i64 x2)) (m*3+2) (.slice x3 x4 x5);have keep: ∀y,y≠g->(((w8.setCell ⟨g,m*3,none⟩ (.int .i64 x1)).setCell ⟨g,m*3+1,none⟩ (.int .i64 x2)).setCell ⟨g,m*3+2,none⟩ (.slice x3 x4 x5)).heap[y]? =w8.heap[y]? :=fun y l=> by rw[aL _ _ _ _ l,aL _ _ _ _ l,aL _ _ _ _ l]
   have Gj:(((w8.setCell ⟨g,m*3,none⟩ (.int .i64 x1)).setCell ⟨g,m*3+1,none⟩ (.int .i64 x2)).setCell ⟨g,m*3+2,none⟩ (.slice x3 x4 x5)).heap.size=w8.heap.size:=by simp
   have zi:Ext w (((w8.setCell ⟨g,m*3,none⟩ (.int .i64 x1)).setCell ⟨g,m*3+1,none⟩ (.int .i64 x2)).setCell ⟨g,m*3+2,none⟩ (.slice x3 x4 x5)):=(((X.trans M).setCell (p:=⟨g,m*3,none⟩) (by show w.heap.size<=g;omega) _).setCell (p:=⟨g,m*3+1,none⟩) (by show w.heap.size<=g;omega) _).setCell (p:=⟨g,m*3+2,none⟩) (by show w.heap.size<=g;omega) _;obtain⟨Y,hw9⟩: ∃x,x=(((w8.setCell ⟨g,m*3,none⟩ (.int .i64 x1)).setCell ⟨g,m*3+1,none⟩ (.int .i64 x2)).setCell ⟨g,m*3+2,none⟩ (.slice x3 x4 x5)):=⟨_,rfl⟩;rw[<-hw9] at Cp keep Gj zi⊢;clear hw9;have hs78:=M.size;have bn9:=(keep g7 H).trans (M.blk N);have Ju:=(keep (w.heap.size+1+1) (by omega)).trans (M.blk (en.blk hbr));have Rn9:W0 Y (fun y=> S y\/w.heap.size+3<=y/\y < Y.heap.size) cs.toList s:=Rn.mono (fun y l=> .inl l) (fun y l=>(keep y (by have:=hS y l;omega)).trans (M.heap y (hS7 y l)));have xv:InT Y (fun y=> S y\/w.heap.size+3<=y/\y < Y.heap.size) (F8 (.mk O P q17) r (.mk I K us)) (.agg #[.int .i64 x1,.int .i64 x2,.slice x3 x4 x5]):=InT.mono (fun y l=> by
    rcases l with l|l
    · exact .inl l
    · have h9:D.heap.size<=y:=l.1
      have h8:=l.2;exact .inr ⟨by omega,by omega⟩) (fun y l=> keep y (by
    rcases l with l|l
    · have:=hS y l;omega
    · have h9:D.heap.size<=y:=l.1
      omega)) Fv
   have hR9:=W0.set xv m Rn9;have hK9:=W0.inL Cp (pre:= []) hR9 (by simp[Array.toList_setIfInBounds]);have HK9:=hdq hK9;have HKP:=hdq zi;obtain⟨y0,y1,y2,-,-,-⟩:=own3 bn9;obtain⟨s0,s1,s2,f0,f1,f2⟩:=own3 Ju;have hwg:w.heap.size+1+1 < Y.heap.size:=O1 Ju;have hgg:g < Y.heap.size:=O1 Cp;clear keep zi hK9 hR9 xv Rn9 Rn rn Cp N bn9 Ju Fv G Gz hbr Ak;go_wp2_with fail;refine aO (v:= .agg #[.int .i64 k,.int .i64 B,.slice (some ⟨g,0,none⟩) s.length c]) (by simp[results,results175,go_sem,s0,s1,s2]) rfl ⟨_,rfl, ?_, ?_⟩
   · refine InT.mk_iff.2 ⟨some ⟨g,0,none⟩,c,by rw[fZ],by rw[fZ];exact hc1,Gt,.inr ⟨g,0,rfl,.inr ⟨by omega,by simpa using hgg⟩, ?_⟩⟩
     refine O4.mono (S:=fun y=> S y\/w.heap.size+3<=y/\y < Y.heap.size) (fun y l=> ?_) (fun y l=> ?_) (.inr ⟨by omega,hgg⟩) HK9.out
     · rcases l with l|l
       · exact .inl l
       · exact .inr ⟨by omega,by simpa using l.2⟩
     · have Z:y≠w.heap.size+1+1:=by
        rcases l with l|l
        · have:=hS y l;omega
        · omega
       rw[aL _ _ _ _ Z,aL _ _ _ _ Z,aL _ _ _ _ Z]
   · exact((HKP.out.setCell (by show w.heap.size<=w.heap.size+1+1;omega) _).setCell (by show w.heap.size<=w.heap.size+1+1;omega) _).setCell (by show w.heap.size<=w.heap.size+1+1;omega) _)
theorem B2.rowL{w:aK}{e:aY}{S:Nat->Prop}: ∀{a:List aS} {d:List Tr} {L:List Nat},B2 w e a d L->(∀b,b∈L->S b)->W0 w S a d
 |_, [],_,_,_=> W0.nil
 |a,t::ts,L,h,hS=> by
  obtain⟨v0,v1,v2,rest,j,i,rfl,f,g,rfl⟩:=B2.cons_iff.1 h;exact W0.cons_iff.2 ⟨v0,v1,v2,rest,rfl,f.inT.mono (fun b c=> hS b (by simp[c])) (fun _ _=> rfl),B2.rowL g (fun b c=> hS b (by simp[c]))⟩
theorem N4.toS{W w:aK}{e:aY}{v:aS}{c:List Tr}(h:N4 W w e v c):i9 (fun b=> b < W.heap.size) W w e v c:=by
 obtain⟨g,L,i,k,d,f⟩:=h;exact⟨g,i,k.rowL (fun b a=>⟨(d.2 b a).2,fun j=> f b j a,by have:=(d.2 b a).1;omega⟩)⟩
theorem GH(k n:Int)(a:List Tr)(w:aK)(v:aS)(b8:Lies w (.mk k n a) v)(O8:cnt (.mk k n a)<=1000000):
 Calls prog 46 #[v] w fun e l=> ∃B c,e= .returned (.agg #[.int .i64 k,.int .i64 n,.slice B a.length c])/\(∃E:aK,w.heap.size<=E.heap.size/\i9 (fun b=> b < E.heap.size) E l 25 (.slice B a.length c) a/\E.heap.size<=l.heap.size)/\Ext w l:=by
 obtain⟨A,cap,rfl,hl,hc,hK⟩:=Lies.mk_iff.1 b8;obtain⟨i0,hi,O,L,G⟩:=info_parts yA;have t:=hc;unfold aU at t;simp only[cnt] at O8;have hlc:=kf a;go_enter func46,ntmps46;go_wp2_with fail;obtain⟨d,m⟩: ∃d,d=(w.alloc (.cells #[.int .i64 k,.int .i64 n,.slice A a.length cap] 25)).alloc (.cells #[.int .i64 0,.int .i64 0,.slice none 0 0] 25):=⟨_,rfl⟩;obtain⟨W,z⟩: ∃W,W=d.alloc (.cells #[.int .i64 k,.int .i64 n,.slice none 0 0] 25):=⟨_,rfl⟩;have N:d.heap.size=w.heap.size+1+1:=by rw[m];simp
 have ju:W.heap.size=w.heap.size+3:=by rw[z];simp;omega
 have V:Ext w d:=m▸((xr w).alloc _).alloc _;have Z8:Ext d W:=z▸(xr d).alloc _;have E1:d.heap[w.heap.size+1]? =some (.cells #[.int .i64 0,.int .i64 0,.slice none 0 0] 25 (0,0)):=by
  rw[m];exact(W3 (xr _)).2.1
 have cg:W.heap[w.heap.size+1+1]? =some (.cells #[.int .i64 k,.int .i64 n,.slice none 0 0] 25 (0,0)):=by
  have:=aR d (.cells #[.int .i64 k,.int .i64 n,.slice none 0 0] 25);rw[N] at this;rw[z];exact this
 have U:d.heap[w.heap.size]? =some (.cells #[.int .i64 k,.int .i64 n,.slice A a.length cap] 25 (0,0)):=by
  rw[m];exact(W3 (xr _)).1
 rw[<-m,<-z];clear z m
 go_loopw [4] (fun i wr=> ∃(j:Nat) (v:aS),j<=a.length/\i= .int .i64 j/\wr.heap[w.heap.size+1+1]? =some (.cells #[.int .i64 k,.int .i64 n,v] 25 (0,0))/\N4 W wr 25 v (a.take j)/\Ext d wr/\W.heap.size<=wr.heap.size) (fun i _=> a.length -(intOf i).toNat)
 case atStart=> exact⟨0,_,bT _,rfl,cg,N4.nil _ _ _,Z8,aM _⟩
 case round=>
  obtain⟨j,v,hj,rfl,D,hG,g,y⟩:=hrel;by_cases x:j < a.length
  · obtain⟨b,o,k',n',A',T,kids,rfl,HK,c0,c1,c2,G7,G0,hK',u6,d6⟩:=hK.get (V.trans g) x
    have Y:=fP x;rw[HK.out] at Y;have hcm:=L9 d6;have C:(a.take j).length < 1099511627776:=by rw[cU];omega
    have R8:(a.take j).length=j:=by rw[cU];omega
    have HL:=hdq R8;have R:=g.blk U;obtain⟨-,-,t2,-,-,-⟩:=own3 R;have hj':(j:Int) <(a.length:Int):=by omega
    go_wp2_with fail;have I6:=y;have G5:=hG;have X:=D;have hv:=i1 X 2;have p8: ∀l,Below W.heap.size wr l->l.heap[w.heap.size+1+1]? =some (.cells #[.int .i64 k,.int .i64 n,v] 25 (0,0)):=fun l hB=>(hB.block (w.heap.size+1+1) (by omega)).trans X
    have r:=hdq p8;have S:Ext wr wr.drew:=(xr wr).drew;have R6:=u6.ext S;have bm:=g;clear p8 R8 D hG g y t
    go_region_law (first|(go_simp;go_at_call 46;refine(Yg _ _ _ R6 (by omega)).mono ?_;rintro e w4 ⟨u,rfl,I,Q⟩;obtain⟨a1,a2,a3,a4,a5,rfl⟩:=I.three';have q:=i1 (r.out _ ((S.trans Q).below I6)) 2;have ie:=bR _ _ q) |(refine Rx _ (by rfl) (.tmp 18) (.tmp 25) _ (by rfl) 25 i0 _ underlying23 hi O L G rfl (by rfl) G5 I6 (S.trans Q) (I.since (aM _)) ((xr _).alloc _) (by rfl) (aR _ _) C ?_;intro v' w5 F s;obtain⟨J,M,rfl,Z,q2,-⟩:=F.made;have ig:=i1 (r.out _ s) 2;have qp:=Ob (r.out _ s) 2))
    all_goals(
     have U4:Ext d w5:=bm.trans' s (by omega);have hs5:=s.size;have ae:=r.out _ s;rw[List.length_append,List.length_singleton,Y,show(a.take j).length+1=min (j+1) a.length from by rw[cU];omega] at F;have ib:=fun u=> F.after ((pa.refl W.heap.size w5).setCell (p:=⟨w.heap.size+1+1,2,none⟩) (by show w.heap.size+1+1 < W.heap.size;omega) u)
     clear q ie hv r I Q c0 c1 c2 t2;go_wp2_with fail
     go_roundw
     case rel=> exact⟨j+1,_,by omega,by go_num,M6 ae 2 _,ib _,U4.setCell (by show _<=w.heap.size+1+1;omega) _,by simp;omega⟩
     case measure=> simp[intOf];omega)
  · obtain⟨J,M,rfl,Z,q2,W5⟩:=hG.made
    have H:=hG.toS;have P:j=a.length:=by omega
    have K:(a.take j).length=a.length:=by rw[P,iN]
    obtain⟨r0,r1,r2,-,-,-⟩:=own3 D;have R:=g.blk U;obtain⟨-,-,t2,-,-,-⟩:=own3 R;have N7:=g.blk E1;obtain⟨s0,s1,s2,f0,f1,f2⟩:=own3 N7;rw[K] at Z r2;rw[show a.take j=a from by rw[P,iN]] at W5;rw[K] at H;clear K D;go_wp2_with fail;refine aO (v:= .agg #[.int .i64 k,.int .i64 n,.slice J a.length M]) (by simp[results,results46,go_sem,s0,s1,s2]) rfl ⟨J,M,rfl,⟨W,by omega, ?_,by simp;omega⟩, ?_⟩
    · rw[show a.take j=a from by rw[P,iN]] at H
      exact((H.only (X0.one _ (w.heap.size+1) 0 _) (by intro b f;rw[List.mem_singleton.1 f];omega) (fun b f=> f)).only (X0.one _ (w.heap.size+1) 1 _) (by intro b f;rw[List.mem_singleton.1 f];omega) (fun b f=> f)).only (X0.one _ (w.heap.size+1) 2 _) (by intro b f;rw[List.mem_singleton.1 f];omega) (fun b f=> f)
    · exact((((V.trans g).setCell (by simp) _).setCell (by simp) _).setCell (by simp) _)
end Go.Proofs.YtckhbnmfnpolgaaGreat
namespace Go.Proofs.YtckhbnmfnpolgaaGreat
open Go.RowKit
def Rf(W w:aK)(e:aY)(v:aS)(c:List Tr)(n:Nat):Prop:=
 c.length=n*2/\ ∃a,w.ownsRow W.heap.size e 6 v n a/\W0 w (fun b=> W.heap.size<=b/\b < w.heap.size/\v.ownBlock≠some b) a c
theorem LD{w c:aK}{base:Nat}{e:aY}{v:aS}{n:Nat}{b:List aS}(h:w.ownsRow base e 6 v n b)(f: ∀g,v.ownBlock=some g->c.heap[g]? =w.heap[g]?):c.ownsRow base e 6 v n b:=by
 refine⟨h.1, ?_⟩;rcases h.2 with h|⟨g,cap,a,rfl,d,i,r⟩
 · exact .inl h
 · exact .inr ⟨g,cap,a,rfl,d,(f g rfl).trans i,r⟩
theorem Rf.nil(W w:aK)(e:aY):Rf W w e (.slice none 0 0) [] 0:=⟨rfl, [],World.ownsRow_nil _ _ _ _,W0.nil⟩
theorem Rf.same{W w d:aK}{e:aY}{v:aS}{i:List Tr}{n:Nat}(h:Rf W w e v i n)(hs:w.heap.size<=d.heap.size)(a: ∀b,W.heap.size<=b->b < w.heap.size->d.heap[b]? =w.heap[b]?):Rf W d e v i n:=by
 obtain⟨j,k,c,l⟩:=h;exact⟨j,k,LD c (fun g f=> a g (c.lt g f).1 (c.lt g f).2),l.mono (fun b a=>⟨a.1,aX a.2.1 hs,a.2.2⟩) (fun b hm=> a b hm.1 hm.2.1)⟩
theorem Rf.only{W w a:aK}{e:aY}{v:aS}{d:List Tr}{n:Nat}{L:List Nat}(h:Rf W w e v d n)(c:X0 L w a)(f: ∀b,b∈L->b < W.heap.size):Rf W a e v d n:=
 h.same c.size (fun b i g=> c.block b g (fun hm=> by have:=f b hm;omega))
theorem Rf.slice{W w:aK}{e:aY}{v:aS}{ks:List Tr}{n:Nat}(h:Rf W w e v ks n): ∃A cap,v= .slice A n cap/\n<=cap/\cap<=aU/\Mb W.heap.size w A ks:=by
 obtain⟨o,p,j,m⟩:=h;rcases j.2 with⟨rfl,a⟩ |⟨g,cap,d,rfl,c,i,k,f,l,ht⟩
 · have:ks= []:=aZ (by omega)
   subst this;exact⟨none,0,by rw[a],by omega,bT _,.inl rfl⟩
 · refine⟨_,cap,rfl,k,f,.inr ⟨g,0,rfl,⟨c,O1 i⟩, ?_⟩⟩
   have a:=W0.tail (d.toList.drop (n*6)) (m.mono (S':=fun b=> W.heap.size<=b/\b < w.heap.size) (fun b c=>⟨c.1,c.2.1⟩) (fun _ _=> rfl));rw[<-ht,gW] at a;exact W0.inL i (pre:= []) a (by simp)
theorem Rf.cap{W w:aK}{e:aY}{A:Option Addr}{n cap f:Nat}{ks:List Tr}(h:Rf W w e (.slice A n cap) ks f):A=none->cap=0:=by
 obtain⟨i,j,d,k⟩:=h;intro hA;rcases d.2 with⟨a,-⟩ |⟨g,c,b,a,-⟩
 · simp only[iU] at a
   exact a.2.2
 · simp only[iU] at a
   rw[hA] at a;cases a.1
theorem W0.append{w:aK}{S:Nat->Prop}{d:List aS}{ts:List Tr}(ht:W0 w S d ts): ∀{a:List aS} {b:List Tr},a.length=b.length*3->W0 w S a b->W0 w S (a++d) (b++ts)
 |a, [],hx,h=> by
  have c:a= []:=aZ (by simpa using hx);subst c;exact ht
 |a,x::b,hx,h=> by
  obtain⟨i,f,e,rest,rfl,g,j⟩:=W0.cons_iff.1 h;exact W0.cons_iff.2 ⟨i,f,e,_,rfl,g,W0.append ht (by simp only[bY] at hx;omega) j⟩
theorem W0.two{w:aK}{S:Nat->Prop}{t u:Tr}{v0 v1 v2 v3 v4 a:aS}(b:InT w S t (.agg #[v0,v1,v2]))(c:InT w S u (.agg #[v3,v4,a])):W0 w S [v0,v1,v2,v3,v4,a] [t,u]:=
 W0.cons_iff.2 ⟨v0,v1,v2,_,rfl,b,W0.cons_iff.2 ⟨v3,v4,a,_,rfl,c,W0.nil⟩⟩
theorem Rf.row{W w:aK}{e:aY}{v:aS}{l:List Tr}{n:Nat}(h:Rf W w e v l n)(hn:0 < n): ∃g cap,v= .slice (some ⟨g,0,none⟩) n cap/\W.heap.size<=g/\g < w.heap.size/\n<=cap/\cap<=aU/\
 ∀j,j < n*6-> ∃x,w.cell? ⟨g,j,none⟩=some x/\w.frozen? ⟨g,j,none⟩=false:=by
 obtain⟨o,p,f,q⟩:=h;rcases f.2 with⟨rfl,r⟩ |⟨g,cap,b,rfl,k,a,i,c,d,ht⟩
 · omega
 · exact⟨g,cap,rfl,k,O1 a,i,c,fun j m=>⟨b[j]'(by rw[d];omega),by rw[i1 a];exact Array.getElem?_eq_getElem _,Ob a _⟩⟩
def conA(t:Tr)(p:List Int):Tr:=match ea t p with
 |some u=> F8 t p (ctrT u)
 |none=> E2
def pb(t:Tr)(p:List Int):Bool:=match ea t p with
 |some u=> ef u
 |none=> false
def Qe(t:Tr)(p:List Int):Tr×Bool:=if j0 m0 (conA t p)=true then(conA t p,true) else(E2,false)
def Rj(t:Tr):Tr×Int:=match outT t with
 |none=>(t,0)
 |some p=> if j0 m0 (conA t p)=true then(conA t p,1) else(E2,2)
def T4:Nat->Tr->Tr×Int
 |0,t=> match outT t with
  |none=>(t,0)
  |some _=>(E2,1)
 |f+1,t=> match outT t with
  |none=>(t,0)
  |some p=> if j0 m0 (conA t p)=true then T4 f (conA t p) else(E2,2)
def we(t:Tr)(f:Int):Tr×Int:=if(j0 m0 t && kb f 0 200)=true then T4 f.toNat t else(E2,3)
def Sc(a b:Tr)(f:Int):Int:=if(j0 m0 a &&(j0 m0 b && kb f 0 200))=true then(if a=b then 1 else if(T4 f.toNat a).2=0/\(T4 f.toNat b).2=0 then(if(T4 f.toNat a).1=(T4 f.toNat b).1 then 1 else 2) else 3) else 0
theorem Tv{t:Tr}{p:List Int}(h:pb t p=true): ∃u,ea t p=some u/\ef u=true:=by
 unfold pb at h;cases e:ea t p with
 |none=> rw[e] at h;cases h
 |some u=> rw[e] at h;exact⟨u,rfl,h⟩
theorem zv{k n:Int}{a:List Tr}:ef (.mk k n a)=true↔rdx k a≠0:=by simp[ef,U3]
theorem qI{a:List Tr}: ∀{i:Nat} {x:Tr},Par (kd a i) x->d5 a (a.set i x):=by
 induction a with
 |nil=> intro i x _;exact .nil
 |cons t ts ih=>
  intro i x h;cases i with
  |zero=> exact .cons h (d5.refl ts)
  |succ i=> exact .cons (Par.refl t) (ih h)
theorem OB: ∀(p:List Int) (t u a:Tr),ea t p=some u->Par u a->Par t (F8 t p a)
 | [],t,u,a,h,b=> by
  have e:t=u:=by cases t;simpa[ea] using h
  subst e;rw[zC];exact b
 |i::r,.mk k n c,u,a,h,b=> by
  rw[ea] at h
  split at h
  · rw[F8]
    exact .node (qI (OB r _ u a h b))
  · cases h
theorem Sn{u:Tr}(h:ef u=true):Par u (ctrT u):=by
 obtain⟨k,n,a⟩:=u;exact .red (zv.1 h) (d5.refl a)
theorem Xz{t:Tr}{p:List Int}(h:pb t p=true):Par t (conA t p):=by
 obtain⟨u,a,b⟩:=Tv h;unfold conA;rw[a];exact OB p t u _ a (Sn b)
mutual
theorem pp: ∀(t:Tr) (p:List Int),outT t=some p->pb t p=true
 | .mk k n a,p,h=> by
  rw[outT] at h
  split at h
  · obtain⟨j,r,rfl,d,b⟩:=iD a 0 p h
    unfold pb at b⊢;rw[ea,if_pos ⟨by omega,by omega⟩];rw[show(((0+j:Nat):Int)).toNat=j by omega];exact b
  · rename_i c
    cases h
    unfold pb;rw[show ea (.mk k n a) []=some (.mk k n a) from rfl];exact zv.2 c
theorem iD: ∀(a:List Tr) (i:Nat) (p:List Int),pc i a=some p-> ∃(j:Nat) (r:List Int),p=((i+j:Nat):Int)::r/\j < a.length/\pb (kd a j) r=true
 | [],i,p,h=> by rw[pc] at h;cases h
 |t::ts,i,p,h=> by
  rw[pc] at h;cases e:outT t with
  |some q=>
   rw[e] at h;cases h
   exact⟨0,q,rfl,by simp,pp t q e⟩
  |none=>
   rw[e] at h;obtain⟨j,r,rfl,b,c⟩:=iD ts (i+1) p h;exact⟨j+1,r,by rw[show i+1+j=i+(j+1) by omega],by simpa using b,c⟩
end
theorem SC: ∀(f:Nat) (t x:Tr),j0 m0 t=true->T4 f t=(x,0)->m7 t x/\Wk x=true/\j0 m0 x=true
 |0,t,x,hv,h=> by
  unfold T4 at h;cases e:outT t with
  |none=>
   rw[e] at h;cases h
   have:=ys t;rw[e] at this;exact⟨.refl _,by simpa using this.symm,hv⟩
  |some p=> rw[e] at h;cases h
 |f+1,t,x,hv,h=> by
  unfold T4 at h;cases e:outT t with
  |none=>
   rw[e] at h;cases h
   have:=ys t;rw[e] at this;exact⟨.refl _,by simpa using this.symm,hv⟩
  |some p=>
   rw[e] at h;simp only at h
   split at h
   · rename_i hc
     obtain⟨a,b⟩:=SC f _ x hc h;exact⟨(m7.one (Xz (pp t p e))).trans a,b⟩
   · cases h
theorem Tx{t u:Tr}{p:List Int}(h:j0 m0 t=true)(e:ea t p=some u):j0 m0 u=true:=by
 obtain⟨b,c⟩:=Z3 h;have d:=CC p t u e;have a:=dD p t u 30 b e;unfold j0;rw[Ow a (by omega),Bool.true_and,decide_eq_true_eq];omega
theorem dH{t:Tr}{p:List Int}{u:Tr}(h:ea t p=some u)(hv:j0 m0 (conA t p)=true):j0 m0 (ctrT u)=true:=by
 unfold conA at hv;rw[h] at hv;exact Tx hv (YA p t (ctrT u) u h).1
end Go.Proofs.YtckhbnmfnpolgaaGreat
namespace Go.Proofs.YtckhbnmfnpolgaaGreat
open Go.RowKit
attribute [local go_sem ↓] Go.wp_at_zero Go.wp_at_succ
theorem dF:(prog.info? 25).map (fun i=>(i.zero,i.size,i.bytes))=some (some (.agg #[.int .i64 0,.int .i64 0,.slice none 0 0]),3,40):=by kernel_rfl
theorem UH{a:List Tr}{j m:Nat}(x:Tr)(h:j < a.length)(c:j≠m):(a.set m x).take (j+1)=(a.set m x).take j++ [a[j]]:=by
 have b:j <(a.set m x).length:=by rw[fZ];exact h
 rw[<-fP b,List.getElem_set_ne (by omega)]
theorem ND{a:List Tr}{m:Nat}(x:Tr)(h:m < a.length):(a.set m x).take (m+1)=(a.set m x).take m++ [x]:=by
 have b:m <(a.set m x).length:=by rw[fZ];exact h
 rw[<-fP b,List.getElem_set_self]
theorem zG(k n:Int)(a:List Tr)(kid:Tr)(m:Nat)(t:Nat->Prop)(w:aK)(v vk:aS)(b8:Lies w (.mk k n a) v)(Jp: ∀b,t b->b < w.heap.size)(I8:InT w t kid vk)(hm:m < a.length)(O8:cnt (.mk k n a)<=1000000):
 Calls prog 101 #[v,.int .i64 m,vk] w fun e C=> ∃x,e= .returned x/\InT C (fun b=> t b\/w.heap.size+4<=b/\b < C.heap.size) (.mk k n (a.set m kid)) x/\Ext w C:=by
 obtain⟨A,cap,rfl,hl,hc,hK⟩:=Lies.mk_iff.1 b8;obtain⟨F,M,N,G,J,rfl⟩:=Lies.three (InT.mono Jp (fun _ _=> rfl) I8);obtain⟨i0,hi,hz0,T,P⟩:=info_parts dF;have S:=hc;unfold aU at S;simp only[cnt] at O8;have hlc:=kf a;go_enter func101,ntmps101;go_wp2_with fail;obtain⟨c,d9⟩: ∃c,c=((w.alloc (.cells #[.int .i64 k,.int .i64 n,.slice A a.length cap] 25)).alloc (.cells #[.int .i64 F,.int .i64 M,.slice N G J] 25)).alloc (.cells #[.int .i64 0,.int .i64 0,.slice none 0 0] 25):=⟨_,rfl⟩;obtain⟨W,Z⟩: ∃W,W=c.alloc (.cells #[.int .i64 k,.int .i64 n,.slice none 0 0] 25):=⟨_,rfl⟩;have Y:c.heap.size=w.heap.size+3:=by rw[d9];simp
 have ju:W.heap.size=w.heap.size+4:=by rw[Z];simp;omega
 have B7:Ext w c:=d9▸(((xr w).alloc _).alloc _).alloc _;have Z8:Ext c W:=Z▸(xr c).alloc _;obtain⟨P9,Jo,E1,-⟩:c.heap[w.heap.size]? =some (.cells #[.int .i64 k,.int .i64 n,.slice A a.length cap] 25 (0,0))/\c.heap[w.heap.size+1]? =some (.cells #[.int .i64 F,.int .i64 M,.slice N G J] 25 (0,0))/\c.heap[w.heap.size+1+1]? =some (.cells #[.int .i64 0,.int .i64 0,.slice none 0 0] 25 (0,0))/\True:=by
  rw[d9];exact⟨(mc (xr _)).1,(mc (xr _)).2.1,(mc (xr _)).2.2.1,trivial⟩
 have cg:W.heap[w.heap.size+1+1+1]? =some (.cells #[.int .i64 k,.int .i64 n,.slice none 0 0] 25 (0,0)):=by
  have:=aR c (.cells #[.int .i64 k,.int .i64 n,.slice none 0 0] 25);rw[Y] at this;rw[Z];exact this
 rw[<-d9,<-Z];have hsWa:w.heap.size+4<=W.heap.size:=by omega
 have hsWb:W.heap.size<=w.heap.size+4:=by omega
 have hs1a:w.heap.size+3<=c.heap.size:=by omega
 have hs1b:c.heap.size<=w.heap.size+3:=by omega
 clear Z d9 ju Y;have r: ∀b,((b < w.heap.size/\ ¬t b)\/w.heap.size<=b/\b < W.heap.size)->b < W.heap.size:=fun b f=> by rcases f with f|f <;> omega
 go_loopw [8] (fun i wr=> ∃(j:Nat) (v:aS),j<=a.length/\i= .int .i64 j/\wr.heap[w.heap.size+1+1+1]? =some (.cells #[.int .i64 k,.int .i64 n,v] 25 (0,0))/\i9 (fun b=>(b < w.heap.size/\ ¬t b)\/w.heap.size<=b/\b < W.heap.size) W wr 25 v ((a.set m kid).take j)/\Ext c wr/\W.heap.size<=wr.heap.size) (fun i _=> a.length -(intOf i).toNat)
 case atStart=> exact⟨0,_,bT _,rfl,cg,i9.nil _ _ _ _,Z8,aM _⟩
 case round=>
  obtain⟨j,v,hj,rfl,B,hG,z,V⟩:=hrel;by_cases D:j < a.length
  · have s:((a.set m kid).take j).length < 1099511627776:=by rw[cU];omega
    obtain⟨-,-,t2,-,-,-⟩:=own3 (z.blk P9);obtain⟨u0,u1,u2,-,-,-⟩:=own3 (z.blk Jo);have hj':(j:Int) <(a.length:Int):=by omega
    have hv:=i1 B 2;have xh:=Ob B 2;have p: ∀q,v.ownBlock=some q->W.heap.size<=q/\q < wr.heap.size:=by
     obtain⟨xs,g1,-⟩:=hG;exact fun q hq=> g1.lt q hq
    have ni:=hdq p;have hwrb:w.heap.size+1+1+1 < wr.heap.size:=O1 B;have z7:w.heap.size+1 < wr.heap.size:=by omega
    by_cases Ae:j=m
    · subst Ae
      have hjb:((j:Int)==(j:Int))=true:=by simp
      have K:=ND kid D;have gj:=hdq K;have L:=(xr wr).alloc (.cells #[.int .i64 F,.int .i64 M,.slice N G J] 25);have hGk:=hG.ext L;have U:InT (wr.alloc (.cells #[.int .i64 F,.int .i64 M,.slice N G J] 25)) (fun b=> b <(wr.alloc (.cells #[.int .i64 F,.int .i64 M,.slice N G J] 25)).heap.size/\v.ownBlock≠some b/\ ¬((b < w.heap.size/\ ¬t b)\/w.heap.size<=b/\b < W.heap.size)) kid (.agg #[.int .i64 F,.int .i64 M,.slice N G J]):=InT.mono (fun y d=> by
       have h2:y < w.heap.size:=Jp y d;exact⟨by simp;omega,fun hh=> by have:=(ni.out y hh).1;omega,fun hx=> by rcases hx with hx|hx;exact hx.2 d;omega⟩) (fun y d=>((B7.trans z).trans L).heap y (Jp y d)) I8
      have HBV:=hdq (L.blk B);have HG:=hdq hGk;have HT:=hdq U;clear p hG hGk U K B;go_wp2_with (at_builtin;refine BD _ rfl (.tmp 25) (.tmp 27) _ (by rfl) 25 i0 _ underlying23 hi hz0 T P rfl (by rfl) (W:=W) HG.out (by have:=L.size;omega) HT.out (by rfl) (aR _ _) s ?_ r)
      intro v' E g H;have U4:Ext c E:=(z.trans L).trans' H (by omega);have hs5:=H.size;have ae:=(H.block (w.heap.size+1+1+1) (by omega)).trans HBV.out;rw[<-gj.out] at g;obtain⟨B5,c5,rfl,-,-,-,-⟩:=g.lies r;obtain⟨l5,yx⟩: ∃l,((a.set j kid).take (j+1)).length=l:=⟨_,rfl⟩;rw[yx] at g⊢;clear yx;have Ff:W.heap.size<=E.heap.size:=by have:=L.size;omega
      have ig:=i1 ae 2;have qp:=Ob ae 2;have Ai:=hdq g;clear hv xh t2 u0 u1 u2 g s;go_wp2_with fail
      go_roundw
      case rel=> exact⟨j+1,_,by omega,by go_num,M6 ae 2 _,Ai.out.only (X0.one E (w.heap.size+1+1+1) 2 _) (by intro b f;rw[List.mem_singleton.1 f];exact .inr ⟨by omega,by omega⟩) r,U4.setCell (by show _<=w.heap.size+1+1+1;omega) _,by simpa using Ff⟩
      case measure=> simp[intOf];omega
    · have hjb:((j:Int)==(m:Int))=false:=beq_eq_false_iff_ne.2 (by omega)
      obtain⟨b,o,k',n',A',cap',kids,rfl,HK,c0,c1,c2,G7,G0,hK',u6,d6⟩:=hK.get (B7.trans z) D;have K:=UH kid D Ae;rw[HK.out] at K;have gj:=hdq K;have hcm:=L9 d6;have x8:Ext wr wr.drew:=(xr wr).drew;have R6:=u6.ext x8;have p8: ∀C,Below W.heap.size wr C->C.heap[w.heap.size+1+1+1]? =some (.cells #[.int .i64 k,.int .i64 n,v] 25 (0,0)):=fun C hB=>(hB.block (w.heap.size+1+1+1) (by omega)).trans B
      have Q:=hdq p8;have HG:=hdq hG;go_wp2_with fail;clear p8 B hG p K S u0 u1 u2
      go_region_law (first|(go_simp;go_at_call 46;refine(Yg _ _ _ R6 (by omega)).mono ?_;rintro e w4 ⟨u,rfl,hM,h4⟩;obtain⟨a1,a2,a3,a4,a5,rfl⟩:=hM.three';have O:=i1 (Q.out _ ((x8.trans h4).below V)) 2;have ie:=bR _ _ O) |(refine cJ _ (by rfl) (.tmp 31) (.tmp 38) _ (by rfl) 25 i0 _ underlying23 hi hz0 T P rfl (by rfl) (X:=fun b=>(b < w.heap.size/\ ¬t b)\/w.heap.size<=b/\b < W.heap.size) (W:=W) (tr:= .mk k' n' kids) (HG.out.ext ((x8.trans h4).trans ((xr w4).alloc _))) (by have:=(x8.trans h4).size;simp;omega) (InT.mono (fun y d=>⟨by have h9:=d.2;simp;omega,fun hh=> by have h9:wr.heap.size<=y:=d.1;have:=(ni.out y hh).2;omega,by have h9:wr.heap.size<=y:=d.1;omega⟩) (fun y d=>((xr w4).alloc _).heap y d.2) (j2.made hM)) (by rfl) (aR _ _) s ?_ r;intro v' E g H;obtain⟨B5,c5,rfl,-,-,-,-⟩:=g.lies r;obtain⟨l5,yx⟩: ∃l,((a.set m kid).take j++ [Tr.mk k' n' kids]).length=l:=⟨_,rfl⟩;rw[yx] at g⊢;clear yx;have I:Below W.heap.size wr E:=(((x8.trans h4).trans ((xr w4).alloc _)).below V).trans H;have ig:=i1 (Q.out _ I) 2;have qp:=Ob (Q.out _ I) 2))
      all_goals(
       have U4:Ext c E:=z.trans' I (by omega);have hs5:=I.size;have ae:=Q.out _ I;rw[<-gj.out] at g;have Ai:=hdq g;clear O ie hv Q hM h4 c0 c1 c2 t2 g H I xh;go_wp2_with fail
       go_roundw
       case rel=> exact⟨j+1,_,by omega,by go_num,M6 ae 2 _,Ai.out.only (X0.one E (w.heap.size+1+1+1) 2 _) (by intro b f;rw[List.mem_singleton.1 f];exact .inr ⟨by omega,by omega⟩) r,U4.setCell (by show _<=w.heap.size+1+1+1;omega) _,by simp;omega⟩
       case measure=> simp[intOf];omega)
  · have ik:(a.set m kid).take j=a.set m kid:=List.take_of_length_le (by rw[fZ];omega)
    rw[ik] at hG;obtain⟨r0,r1,r2,-,-,-⟩:=own3 B;obtain⟨-,-,t2,-,-,-⟩:=own3 (z.blk P9);obtain⟨s0,s1,s2,f0,f1,f2⟩:=own3 (z.blk E1);have R:=fun(x0 x1 x2:aS)=>((hG.only (X0.one _ (w.heap.size+1+1) 0 x0) (by intro b f;rw[List.mem_singleton.1 f];exact .inr ⟨by omega,by omega⟩) r).only (X0.one _ (w.heap.size+1+1) 1 x1) (by intro b f;rw[List.mem_singleton.1 f];exact .inr ⟨by omega,by omega⟩) r).only (X0.one _ (w.heap.size+1+1) 2 x2) (by intro b f;rw[List.mem_singleton.1 f];exact .inr ⟨by omega,by omega⟩) r
    obtain⟨Bv,cv,rfl,q1,q2,-,-⟩:=hG.lies r;have Az:=hdq R;have zi:=B7.trans z;clear R hG ik B;go_wp2_with fail;refine aO (v:= .agg #[.int .i64 k,.int .i64 n,.slice Bv a.length cv]) (by simp[results,results101,go_sem,s0,s1,s2]) rfl ⟨_,rfl, ?_, ?_⟩
    · obtain⟨Bv',cv',xi,q1',q2',hKK,-⟩:=(Az.out (.int .i64 k) (.int .i64 n) (.slice Bv a.length cv)).lies r
      simp only[iU,true_and] at xi;obtain⟨rfl,rfl⟩:=xi;have Jt:=InK.mono (S':=fun b=> t b\/w.heap.size+4<=b/\b <(((wr.setCell ⟨w.heap.size+1+1,0,none⟩ (.int .i64 k)).setCell ⟨w.heap.size+1+1,1,none⟩ (.int .i64 n)).setCell ⟨w.heap.size+1+1,2,none⟩ (.slice Bv a.length cv)).heap.size) (fun y d=> by
       have h8:=d.1;have h9: ¬((y < w.heap.size/\ ¬t y)\/w.heap.size<=y/\y < W.heap.size):=d.2;by_cases hys:t y
       · exact .inl hys
       · refine .inr ⟨?_,h8⟩
         by_cases h7:y < w.heap.size
         · exact absurd (.inl ⟨h7,hys⟩) h9
         · have: ¬(w.heap.size<=y/\y < W.heap.size):=fun h=> h9 (.inr h)
           omega) (fun _ _=> rfl) hKK
      exact InT.mk_iff.2 ⟨_,_,by rw[fZ],by rw[fZ];simpa using q1,q2,Jt⟩
    · exact((zi.setCell (by show _<=w.heap.size+1+1;omega) _).setCell (by show _<=w.heap.size+1+1;omega) _).setCell (by show _<=w.heap.size+1+1;omega) _
theorem zI(k n:Int)(c:List Tr)(kid:Tr)(m B:Nat)(w:aK)(v d:aS)(o:Lies w (.mk k n c) v)(l:j2 B w kid d)(q:B<=w.heap.size)(hm:m < c.length)(j:cnt (.mk k n c)<=1000000):
 Calls prog 101 #[v,.int .i64 m,d] w fun e f=> ∃x,e= .returned x/\j2 B f (.mk k n (c.set m kid)) x/\Ext w f:=
 (zG k n c kid m (fun b=> B<=b/\b < w.heap.size) w v d o (fun b a=> a.2) l hm j).mono fun e f ⟨x,i,p,g⟩=>⟨x,i,InT.mono (fun b a=> by
  have:=g.size;rcases a with a|a
  · exact⟨a.1,by have:=a.2;omega⟩
  · exact⟨by have:=a.1;omega,a.2⟩) (fun _ _=> rfl) p,g⟩
