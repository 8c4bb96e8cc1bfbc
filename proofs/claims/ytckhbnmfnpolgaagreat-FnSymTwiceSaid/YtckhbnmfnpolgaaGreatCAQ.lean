/-
  Lemmas towards the law, 17: Put, CopyTop, DefG, RedP, Put3.
-/
import Derived.Test.YtckhbnmfnpolgaaGreatC00
import Derived.Test.YtckhbnmfnpolgaaGreatCAP
open List renaming getD_eq_getElem?_getD->dR,length_set->gQ,take_append_drop->iQ,length_cons->cN,eq_nil_of_length_eq_zero->bO,getElem_mem->gU,take_append_getElem->fV,length_take->dM,take_length->jL
open Go renaming World->aL,TypeId->aZ,Value->aT,maxLen->aV,bodyPost_ret->aP,heap_alloc_new->aS
open Nat renaming le_refl->aN,zero_le->bV,lt_of_lt_of_le->aY
open Go.World renaming block_lt_of_cell?->bU,alloc->aO
open Go.RowKit.Below renaming heap_setCell->aM
open Go.Value.slice renaming injEq->jR
open Go.Proofs.Tryz
set_option linter.all false
set_option maxHeartbeats 4000000
set_option maxRecDepth 100000
namespace Go.Proofs.YtckhbnmfnpolgaaGreat
open Go.RowKit
attribute [local go_sem ↓] Go.wp_at_zero Go.wp_at_succ
def m8:Tr->List Int->Tr->Tr
 |_, [],u=> u
 | .mk k n a,i::r,u=> .mk k n (a.set i.toNat (m8 (kd a i.toNat) r u))
theorem YB(t u:Tr):m8 t [] u=u:=by cases t;rfl
theorem Dj{a:List Tr}{i:Nat}(h:i < a.length)(x:Tr):kd (a.set i x) i=x:=by
 unfold kd;rw[dR,List.getElem?_set_self h]
 rfl
theorem Mt{a:List Tr}{i:Nat}(h:i < a.length):a.set i (kd a i)=a:=by
 unfold kd;rw[dR,List.getElem?_eq_getElem h];exact List.set_getElem_self h
theorem LA: ∀(p:List Int) (t u o:Tr),aa t p=some o->aa (m8 t p u) p=some u/\m8 (m8 t p u) p o=t
 | [],t,u,o,h=> by
  have e:t=o:=by cases t;simpa[aa] using h
  subst e;rw[YB,YB];exact⟨by cases u;rfl,rfl⟩
 |i::r,.mk k n a,u,o,h=> by
  rw[aa] at h
  split at h
  · rename_i hi
    obtain⟨c,b⟩:=LA r (kd a i.toNat) u o h;have hl:i.toNat < a.length:=by omega
    rw[m8,aa,gQ,if_pos hi,Dj hl,m8,Dj hl,b,List.set_set,Mt hl];exact⟨c,rfl⟩
  · cases h
theorem bE: ∀{ks:List Tr} {i:Nat} (h:i < ks.length) (x:Tr),W1 (ks.set i x)+cnt (kd ks i)=W1 ks+cnt x
 |t::ts,0,h,x=> by simp[kd,W1];omega
 |t::ts,i+1,h,x=> by
  have:=bE (ks:=ts) (i:=i) (by simpa using h) x;rw[VC,List.set_cons_succ,W1,W1];omega
theorem KC: ∀(p:List Int) (t u o:Tr),aa t p=some o->cnt (m8 t p u)+cnt o=cnt t+cnt u
 | [],t,u,o,h=> by
  have e:t=o:=by cases t;simpa[aa] using h
  subst e;rw[YB];omega
 |i::r,.mk k n a,u,o,h=> by
  rw[aa] at h
  split at h
  · rename_i hi
    have c:=KC r (kd a i.toNat) u o h;have b:=bE (ks:=a) (i:=i.toNat) (by omega) (m8 (kd a i.toNat) r u);rw[m8,cnt,cnt];omega
  · cases h
theorem q94{P:Program}(w:aL){ops:Array Oper}{rest:List Oper}{o:Oper}{a:Act}{Q:Exit->Act->aL->Prop}(y:o.guard=none)(s x:Operand)(t:aZ)
 (R:o.op= .call {callee:= .builtin .append,args:=#[s,x],argTypes:=#[t,t]})
 (base:Nat) (e:aZ) (i:TypeInfo) (z:aT) (ht:P.underlying t=some (.slice e)) (hi:P.info? e=some i) (H:i.zero=some z) (d:i.size=3) (r:i.bytes=40) (A:z.cells.size=3)
 {v:aT} {q o0 cap:Nat} {c:List Tr} (hs:a.eval s=v) (l:w.ownsRow base e 3 v 0 []) (f:base<=w.heap.size) (hx:a.eval x= .slice (some ⟨q,o0,none⟩) c.length cap) {S:Nat->Prop} (hS: ∀b,S b->b < w.heap.size/\v.ownBlock≠some b) (hK:O4 w S q o0 c) (hn:c.length<=1048576) (Y:0 < c.length)
 (h: ∀(m g:Nat) (cs:Array aT) (k:aL),k.heap[g]? =some (.cells cs e (0,0))->base<=g->c.length*3<=cs.size->I1 k S cs.toList c->c.length<=m->m<=aV->w.grownBy k v.ownBlock->wpList P ops Q rest (a.put o.dst (.slice (some ⟨g,0,none⟩) c.length m)) k):wpList P ops Q (o::rest) a w:=by
 refine wpList_plain y fun K C=> ?_
 obtain⟨U,J,I,O,M⟩:=hK.rowL;obtain⟨X,k,hr,G,D,W⟩:=cr (P:=P) w base t o.type e i z 3 40 ht hi H d r A (by decide) v 0 [] l ⟨q,o0,none⟩ c.length cap U J (fun j u T=> by rw[Addr.add_lit];exact I j u T) O (by unfold aV;omega) (by omega) f;rw[Nat.zero_add,List.nil_append] at G;unfold Oper.wp execOp;simp only[R,resolve,invoke,builtin,Sem.run_bind,Sem.run_pure,Result.andThen_ok,List.map_toArray,List.map_cons,List.map_nil,hs,hx,hr];rcases G.2 with⟨-,Z⟩ |⟨g,m,cs,rfl,n,N,E,B,p,L⟩
 · omega
 · refine C _ _ (h m g cs k N n (by rw[p];exact Nat.mul_le_mul_right _ E) ?_ E B D)
   have F:=I1.tail (cs.toList.drop (c.length*3)) (M.mono (fun _ h=> h) (fun b n=> D.block b (hS b n).1 (fun V=>(hS b n).2 V.symm)));rw[<-L,iQ] at F;exact F
theorem fG:(prog.info? 25).map (fun i=>(i.zero,i.size,i.bytes))=some (some (M0 0 0 none 0 0),3,40):=by kernel_rfl
theorem xG(a:List Tr)(w:aL)(S:Nat->Prop)(hS: ∀b,S b->b < w.heap.size)(b o cap:Nat)(t:S b)(hK:O4 w S b o a)(hn:a.length<=1048576)(B:0 < a.length):Calls prog 179 #[.slice (some ⟨b,o,none⟩) a.length cap] w fun e d=>
 ∃(c g:Nat) (cs:Array aT),e= .returned (.slice (some ⟨g,0,none⟩) a.length c)/\d.heap[g]? =some (.cells cs 25 (0,0))/\w.heap.size<=g/\a.length*3<=cs.size/\I1 d S cs.toList a/\a.length<=c/\c<=aV/\Ext w d:=by
 obtain⟨D,hi,i,m,l⟩:=info_parts fG;have hx:=(xr w).alloc (.cells #[] 25);have f:O4 (w.alloc (.cells #[] 25)) S b o a:=O4.mono (fun _ h=> h) (fun x j=> hx.heap x (hS x j)) t hK;have hG:(w.alloc (.cells #[] 25)).ownsRow w.heap.size 25 3 (.slice (some ⟨w.heap.size,0,none⟩) 0 0) 0 []:=World.ownsRow_lit w #[] 0 (aN _) (bV _) rfl;have p: ∀W,(binOp .eql 23 (.slice (some ⟨b,o,none⟩) a.length cap) (.slice none 0 0)).run prog W= .ok (.bool false) W:=fun W=> Lib.run_eql_slice_nil W 23 _ (some ⟨b,o,none⟩) a.length cap 0 0 underlying23
 clear hK;go_enter func179,ntmps179;go_wp2_with (at_builtin;refine q94 _ rfl (.tmp 5) (.tmp 6) 23 rfl w.heap.size 25 D _ underlying23 hi i m l rfl (S:=S) (v:= .slice (some ⟨w.heap.size,0,none⟩) 0 0) rfl hG (by simp) rfl (fun y n=>⟨by have s:y < w.heap.size:=hS y n;simp;omega,by have s:y < w.heap.size:=hS y n;simp[Value.ownBlock];omega⟩) f hn B ?_)
 intro c g cs d E u q A C r z;have hE:Ext w d:=hx.grown z (by intro k hk;simp[Value.ownBlock] at hk;omega);go_wp2_with fail;go_ret;exact⟨c,g,cs,rfl,E,u,q,A,C,r,hE⟩
structure Oi (w:aL) (A:Option Addr) (n cap:Nat) (p:List Int):Prop where
 hn:p.length=n
 hl:n<=cap
 hc:cap<=aV
 hP:Sa w A p
theorem Oi.ext{w a:aL}{A:Option Addr}{n cap:Nat}{p:List Int}(h:Oi w A n cap p)(b:Ext w a):Oi a A n cap p:=⟨h.hn,h.hl,h.hc,h.hP.ext b⟩
theorem Oi.tail{w:aL}{b o n cap:Nat}{i:Int}{r:List Int}(h:Oi w (some ⟨b,o,none⟩) n cap (i::r)):Oi w (if cap=1 then some ⟨b,o,none⟩ else some ⟨b,o+1,none⟩) (n - 1) (cap - 1) r:=by
 obtain⟨f,l,k,c⟩:=h;simp only[cN] at f;refine⟨by omega,by omega,by omega, ?_⟩;by_cases hc:cap=1
 · exact .inl (bO (by omega))
 · rw[if_neg hc]
   rcases c with c|⟨m,p,d,g,a⟩
   · cases c
   · simp only[Option.some.injEq,Addr.mk.injEq,and_true] at d
     obtain⟨rfl,rfl⟩:=d;refine .inr ⟨b,o+1,rfl,g,fun j e=> ?_⟩;have:=a (j+1) (by simpa using e)
     rwa [show o+(j+1)=o+1+j by omega] at this
def MF(p:List Int):Prop:= ∀(t u:Tr) (d:Int),P0 D0 t d=true->(aa t p).isSome=true-> ∀(w:aL) (c f:aT) (S:Nat->Prop),(∀b,S b->b < w.heap.size)->InT w S t c->InT w S u f-> ∀(A:Option Addr) (n cap:Nat),Oi w A n cap p->n<=1000->cnt t<=1000000->
 Calls prog 175 #[c,.slice A n cap,f] w fun e a=> ∃x,e= .returned x/\InT a (fun b=> S b\/w.heap.size<=b/\b < a.heap.size) (m8 t p u) x/\Ext w a
theorem Pp: ∀p:List Int,MF p:=fun p=> by
 induction p with
 |nil=>
  intro t u d hsh C w vt vu S hS hT hU A n cap hp Q8 C0;obtain⟨k,B,s⟩:=t;obtain⟨At,ct,rfl,hlt,l8,zv⟩:=InT.mk_iff.1 hT;obtain⟨J,K,us⟩:=u;have Gj:=hU;obtain⟨U,W,rfl,Kk,nh,hKu⟩:=InT.mk_iff.1 hU;have N7:n=0:=hp.hn.symm;subst N7;have G:=(((xr w).alloc (H0 k B At s.length ct)).alloc (H0 J K U us.length W)).alloc (H0 0 0 none 0 0);obtain⟨I,hb1,hb2,hs2⟩:=zc (xr (((w.alloc (H0 k B At s.length ct)).alloc (H0 J K U us.length W)).alloc (H0 0 0 none 0 0)));go_enter func175,ntmps175;go_wp2_with fail;rw[YB];refine aP (v:= M0 J K U us.length W) (by simp[results,results175,go_sem]) rfl ⟨_,rfl, ?_, ?_⟩
  · exact InT.mono (fun b hb=> .inl hb) (fun b hb=>((((xr w).alloc _).alloc _).alloc _).heap b (hS b hb)) Gj
  · exact(((xr w).alloc _).alloc _).alloc _
 |cons i r ih=>
  intro t u d hsh C w vt vu S hS hT hU A n cap hp Q8 C0;obtain⟨k,B,s⟩:=t;obtain⟨At,ct,rfl,hlt,l8,zv⟩:=InT.mk_iff.1 hT;obtain⟨J,K,us⟩:=u;have Gj:=hU;obtain⟨U,W,rfl,Kk,nh,hKu⟩:=InT.mk_iff.1 hU;have N7:n=r.length+1:=by have:=hp.hn;simpa using this.symm
  obtain⟨b1,o1,rfl,cp⟩:=hp.hP.get (xr w) (j:=0) (by simp);simp only[List.getElem_cons_zero,Nat.add_zero] at cp;have hi:0<=i/\i < s.length:=by
   rw[aa] at C
   split at C
   · assumption
   · cases C
  rw[aa,if_pos hi] at C;obtain⟨m,rfl⟩:=Int.eq_ofNat_of_zero_le hi.1;have hm:m < s.length:=by omega
  have Gm:((m:Int)).toNat=m:=by omega
  rw[Gm] at C;have P:m8 (.mk k B s) ((m:Int)::r) (.mk J K us)= .mk k B (s.set m (m8 (kd s m) r (.mk J K us))):=by rw[m8,Gm]
  rw[P];obtain⟨b,o,T,Q,A2,c2,q17,rfl,ug,Er,d0,d1,d2,gj,ej,hK2⟩:=InK.at_ zv hm;have D4:kd s m= .mk T Q q17:=be hm Er;obtain⟨-,-,-,hsk⟩:=zw hsh;have Gx:P0 D0 (.mk T Q q17) (d - 1)=true:=by have:=hsk _ (gU hm);rwa [Er] at this
  have K5:InT w S (.mk T Q q17) (M0 T Q A2 q17.length c2):=InT.mk_iff.2 ⟨A2,c2,rfl,gj,ej,hK2⟩;have hcm:cnt (.mk T Q q17)<=W1 s:=by have:=k9 (gU hm);rwa [Er] at this
  simp only[cnt] at C0;rw[D4] at C⊢;have Dv:O4 w S b o s:=by
   rcases zv with h|⟨b',o',he,-,hh⟩
   · subst h;simp at hm
   · simp only[Option.some.injEq,Addr.mk.injEq,and_true] at he
     obtain⟨rfl,rfl⟩:=he;exact hh
  have hlc:=Lf s;have Ej:=hS b ug;have hb1w:b1 < w.heap.size:=bU _ _ cp;have G:=(((xr w).alloc (H0 k B (some ⟨b,o,none⟩) s.length ct)).alloc (H0 J K U us.length W)).alloc (H0 0 0 none 0 0);obtain⟨I,Ke,hbr,hs2⟩:=zc (xr (((w.alloc (H0 k B (some ⟨b,o,none⟩) s.length ct)).alloc (H0 J K U us.length W)).alloc (H0 0 0 none 0 0)));have hpt:=hp.tail;have hcpb:n<=cap:=hp.hl;have Lg:cap<=aV:=hp.hc;unfold aV at Lg;obtain⟨AD,Hq⟩: ∃AD,(if cap=1 then some (⟨b1,o1,none⟩:Addr) else some ⟨b1,o1+1,none⟩)=AD:=⟨_,rfl⟩;rw[Hq] at hpt;have HAD:=hdq Hq;have hnz:((n:Int)==0)=false:=beq_eq_false_iff_ne.2 (by omega);have hnz2:(n==0)=false:=beq_eq_false_iff_ne.2 (by omega);have Fq:(0:Int) <(n:Int):=by omega
  have yu:(1:Int)<=(n:Int):=by omega
  have hn6:0 < n:=by omega
  have hn7:1<=n:=by omega
  have hn8:1<=cap:=by omega
  have rz:(1:Int)<=(cap:Int):=by omega
  have hn5:(n:Int)<=(cap:Int):=by omega
  have hm2:(m:Int) <(s.length:Int):=by omega
  have hm3:(0:Int)<=(m:Int):=by omega
  clear Hq P hsk Er Gm hi N7 hT hU D4;go_enter func175,ntmps175;go_wp2_with fail;generalize aO (aO (aO w _) _) _=q at G I Ke hbr hs2⊢;obtain⟨z0,z1,z2,-,-,-⟩:=own3 I;have xm:=hdq (show∀z,Ext q z->z.cell? ⟨w.heap.size,0,none⟩=some (m0 k)/\z.cell? ⟨w.heap.size,1,none⟩=some (m0 B)/\z.cell? ⟨w.heap.size,2,none⟩=some (.slice (some ⟨b,o,none⟩) s.length ct) from fun z hw=>⟨hw.cell z0,hw.cell z1,hw.cell z2⟩);have M:Ext q q.drew:=(xr q).drew;have Fb: ∀y,S y->y < q.heap.size:=fun y l=> by have:=hS y l;have:=G.size;omega
  have Ls:O4 q S b o s:=O4.mono (fun _ h=> h) (fun y l=> G.heap y (hS y l)) ug Dv;have su: ∀V,Ext q V->O4 V S b o s:=fun V hV=> O4.mono (fun _ h=> h) (fun y l=> hV.heap y (Fb y l)) ug Ls
  have Ct:=hdq su;clear su z0 z1 z2
  go_region_held3 (fun z=> z.cell? ⟨w.heap.size,0,none⟩=some (m0 k)/\z.cell? ⟨w.heap.size,1,none⟩=some (m0 B)/\z.cell? ⟨w.heap.size,2,none⟩=some (.slice (some ⟨b,o,none⟩) s.length ct))
   (first|exact xm.out _ (((R.setCell (p:=⟨q.heap.size,0,none⟩) (aN _) _).setCell (p:=⟨q.heap.size,1,none⟩) (aN _) _).setCell (p:=⟨q.heap.size,2,none⟩) (aN _) _) |exact xm.out _ (R.alloc _) |exact xm.out _ R|exact xm.out _ M|exact xm.out _ (M.alloc _) |exact xm.out _ ((xr q).alloc _).drew)
   (first|(go_at_call 179;refine(xG s _ S (fun y l=> aY (Fb y l) (Ext.size (by first|exact M|exact M.alloc _|exact((xr q).alloc _).drew))) b o ct ug (Ct.out _ (by first|exact M|exact M.alloc _|exact((xr q).alloc _).drew)) (by omega) (by omega)).mono ?_;rintro e E ⟨c,g,cs,rfl,F,Z9,hcs,Lq,hc1,Ht,ed⟩;have R:Ext q E:=(by first|exact M.trans ed|exact(M.alloc _).trans ed|exact(((xr q).alloc _).drew).trans ed);(first|(have qb:E.heap[q.heap.size]? =some (H0 0 0 none 0 0):=ed.blk (aS q.drew (H0 0 0 none 0 0));have Y:q.heap.size < g:=(by simp at Z9;omega);obtain⟨sa,sb,sc,fa,fb,fc⟩:=own3 qb) |(have qb:E.heap[q.heap.size]? =some (H0 0 0 none 0 0):=ed.blk (aS q (H0 0 0 none 0 0));have Y:q.heap.size < g:=(by simp at Z9;omega);obtain⟨sa,sb,sc,fa,fb,fc⟩:=own3 qb) |(have qb:=trivial;have Y:=trivial))))
  all_goals have hws:w.heap.size+3<=q.heap.size:=by omega
  all_goals have hgS:q.heap.size<=g:=by have h9:=Z9;simp at h9;omega
  all_goals(first
   |(have en:Ext q (E.alloc (H0 k B (some ⟨g,0,none⟩) s.length c)):=R.alloc _;have N:=aS E (H0 k B (some ⟨g,0,none⟩) s.length c);have rn:=((xr E).alloc (H0 k B (some ⟨g,0,none⟩) s.length c)).blk F;have Rn:I1 (E.alloc (H0 k B (some ⟨g,0,none⟩) s.length c)) S cs.toList s:=Lq.mono (fun _ h=> h) (fun y l=> Below.heap_alloc E _ y (by have:=Fb y l;have:=R.size;omega));have H:E.heap.size≠g:=(by have:=O1 F;omega);have gw:q.heap.size<=E.heap.size:=R.size;obtain⟨D,B7⟩: ∃x,x=E.alloc (H0 k B (some ⟨g,0,none⟩) s.length c):=⟨_,rfl⟩;rw[<-B7];rw[<-B7] at en N rn Rn;clear B7;obtain⟨g7,O⟩: ∃x,x=E.heap.size:=⟨_,rfl⟩;rw[<-O] at N H gw⊢;clear O)
   |(have en:Ext q (((E.setCell ⟨q.heap.size,0,none⟩ (m0 k)).setCell ⟨q.heap.size,1,none⟩ (m0 B)).setCell ⟨q.heap.size,2,none⟩ (.slice (some ⟨g,0,none⟩) s.length c)):=((R.setCell (p:=⟨q.heap.size,0,none⟩) (aN _) _).setCell (p:=⟨q.heap.size,1,none⟩) (aN _) _).setCell (p:=⟨q.heap.size,2,none⟩) (aN _) _;have N:=N5 (N5 (N5 qb 0 (m0 k)) 1 (m0 B)) 2 (.slice (some ⟨g,0,none⟩) s.length c);have rn:=Bd (Bd (Bd F (p:=⟨q.heap.size,0,none⟩) (by show g≠q.heap.size;omega) (m0 k)) (p:=⟨q.heap.size,1,none⟩) (by show g≠q.heap.size;omega) (m0 B)) (p:=⟨q.heap.size,2,none⟩) (by show g≠q.heap.size;omega) (.slice (some ⟨g,0,none⟩) s.length c);have Rn:I1 (((E.setCell ⟨q.heap.size,0,none⟩ (m0 k)).setCell ⟨q.heap.size,1,none⟩ (m0 B)).setCell ⟨q.heap.size,2,none⟩ (.slice (some ⟨g,0,none⟩) s.length c)) S cs.toList s:=Lq.mono (fun _ h=> h) (fun y l=> by have h8:=Fb y l;rw[aM _ _ _ _ (by show y≠q.heap.size;omega),aM _ _ _ _ (by show y≠q.heap.size;omega),aM _ _ _ _ (by show y≠q.heap.size;omega)]);have H:q.heap.size≠g:=(by omega);obtain⟨D,B7⟩: ∃x,x=(((E.setCell ⟨q.heap.size,0,none⟩ (m0 k)).setCell ⟨q.heap.size,1,none⟩ (m0 B)).setCell ⟨q.heap.size,2,none⟩ (.slice (some ⟨g,0,none⟩) s.length c)):=⟨_,rfl⟩;rw[<-B7];rw[<-B7] at en N rn Rn;clear B7;obtain⟨g7,O⟩: ∃x,x=q.heap.size:=⟨_,rfl⟩;have gw:q.heap.size<=g7:=(by rw[O];exact aN _);rw[<-O] at N H⊢;clear O))
  all_goals(
   try clear sa sb sc fa fb fc
   clear qb Y R ed F Lq Z9 M xm;have X:Ext w D:=G.trans en;obtain⟨y0,y1,y2,-,-,-⟩:=own3 N;obtain⟨-,-,t2,-,-,-⟩:=own3 (en.blk I);obtain⟨v0,v1,v2,-,-,-⟩:=own3 (en.blk Ke);have p0:=X.cell cp;have q0:=X.cell d0;have q1:=X.cell d1;have q2:=X.cell d2;have O:g7 < D.heap.size:=O1 N;have hgr:g < D.heap.size:=O1 rn;have Fz:=hdq (show∀z:aL,(∀y,y < D.heap.size->y≠g->z.heap[y]? =D.heap[y]?)->z.cell? ⟨g7,2,none⟩=some (.slice (some ⟨g,0,none⟩) s.length c)/\z.cell? ⟨w.heap.size,2,none⟩=some (.slice (some ⟨b,o,none⟩) s.length ct)/\z.cell? ⟨b1,o1,none⟩=some (m0 m)/\z.cell? ⟨b,o+m*3,none⟩=some (m0 T)/\z.cell? ⟨b,o+m*3+1,none⟩=some (m0 Q)/\z.cell? ⟨b,o+m*3+2,none⟩=some (.slice A2 q17.length c2)/\z.cell? ⟨w.heap.size+1,0,none⟩=some (m0 J)/\z.cell? ⟨w.heap.size+1,1,none⟩=some (m0 K)/\z.cell? ⟨w.heap.size+1,2,none⟩=some (.slice U us.length W) from fun z hw=> by
    have f: ∀(y j:Nat) (x:aT),y < D.heap.size->y≠g->D.cell? ⟨y,j,none⟩=some x->z.cell? ⟨y,j,none⟩=some x:=fun y j x h1 h2 h3=>(World.cell?_of_block (a:=⟨y,j,none⟩) (hw y h1 h2)).trans h3
    exact⟨f _ _ _ O H y2,f _ _ _ (by omega) (by omega) t2,f _ _ _ (by omega) (by omega) p0,f _ _ _ (by omega) (by omega) q0,f _ _ _ (by omega) (by omega) q1,f _ _ _ (by omega) (by omega) q2,f _ _ _ (by omega) (by omega) v0,f _ _ _ (by omega) (by omega) v1,f _ _ _ (by omega) (by omega) v2⟩)
   have X7:Ext D D.drew:=(xr D).drew;have hS7: ∀y,S y->y < D.heap.size:=fun y l=> by have:=hS y l;omega
   go_wp2_with fail;clear y0 y1 y2 t2 v0 v1 v2 p0 q0 q1 q2
   go_region_held3 (fun z=> z.cell? ⟨g7,2,none⟩=some (.slice (some ⟨g,0,none⟩) s.length c)/\z.cell? ⟨w.heap.size,2,none⟩=some (.slice (some ⟨b,o,none⟩) s.length ct)/\z.cell? ⟨b1,o1,none⟩=some (m0 m)/\z.cell? ⟨b,o+m*3,none⟩=some (m0 T)/\z.cell? ⟨b,o+m*3+1,none⟩=some (m0 Q)/\z.cell? ⟨b,o+m*3+2,none⟩=some (.slice A2 q17.length c2)/\z.cell? ⟨w.heap.size+1,0,none⟩=some (m0 J)/\z.cell? ⟨w.heap.size+1,1,none⟩=some (m0 K)/\z.cell? ⟨w.heap.size+1,2,none⟩=some (.slice U us.length W))
    (first|exact Fz.out _ (fun y h1 h2=> by rw[aM _ _ _ _ h2,aM _ _ _ _ h2,aM _ _ _ _ h2];exact L.heap y h1) |exact Fz.out _ (fun y h1 _=> L.heap y h1) |exact Fz.out _ (fun y h1 _=> X7.heap y h1))
    (first|(go_at_call 175;(try rw[HAD.out]);refine(ih _ _ (d - 1) Gx C D.drew _ _ S (fun y l=> hS7 y l) (InT.mono (fun _ h=> h) (fun y l=>(X.trans X7).heap y (hS y l)) K5) (InT.mono (fun _ h=> h) (fun y l=>(X.trans X7).heap y (hS y l)) Gj) _ _ _ (hpt.ext (X.trans X7)) (by omega) (by omega)).mono ?_;rintro e Z ⟨x,rfl,Jt,e8⟩;have L:Ext D Z:=X7.trans e8;have Dk:=Jt;obtain⟨x1,x2,x3,x4,x5,rfl⟩:=InT.three Dk;clear Dk;obtain⟨u0,u1,u2,r0,r1,r2,f0,f1,f2⟩:=Ni (i:=m*3) (L.blk rn) (by omega)))
   clear u0 u1 u2 r0 r1 r2 f0 f1 f2 Fz X7 e8 HAD;have Ee:=N5 (N5 (N5 (L.blk rn) (m*3) (m0 x1)) (m*3+1) (m0 x2)) (m*3+2) (.slice x3 x4 x5);have keep: ∀y,y≠g->(((Z.setCell ⟨g,m*3,none⟩ (m0 x1)).setCell ⟨g,m*3+1,none⟩ (m0 x2)).setCell ⟨g,m*3+2,none⟩ (.slice x3 x4 x5)).heap[y]? =Z.heap[y]? :=fun y l=> by rw[aM _ _ _ _ l,aM _ _ _ _ l,aM _ _ _ _ l]
   have Ji:(((Z.setCell ⟨g,m*3,none⟩ (m0 x1)).setCell ⟨g,m*3+1,none⟩ (m0 x2)).setCell ⟨g,m*3+2,none⟩ (.slice x3 x4 x5)).heap.size=Z.heap.size:=by simp
   have Ba:Ext w (((Z.setCell ⟨g,m*3,none⟩ (m0 x1)).setCell ⟨g,m*3+1,none⟩ (m0 x2)).setCell ⟨g,m*3+2,none⟩ (.slice x3 x4 x5)):=(((X.trans L).setCell (p:=⟨g,m*3,none⟩) (by show w.heap.size<=g;omega) _).setCell (p:=⟨g,m*3+1,none⟩) (by show w.heap.size<=g;omega) _).setCell (p:=⟨g,m*3+2,none⟩) (by show w.heap.size<=g;omega) _;obtain⟨w9,hw9⟩: ∃x,x=(((Z.setCell ⟨g,m*3,none⟩ (m0 x1)).setCell ⟨g,m*3+1,none⟩ (m0 x2)).setCell ⟨g,m*3+2,none⟩ (.slice x3 x4 x5)):=⟨_,rfl⟩;rw[<-hw9] at Ee keep Ji Ba⊢;clear hw9;have hs78:=L.size;have bn9:=(keep g7 H).trans (L.blk N);have Ln:=(keep (w.heap.size+1+1) (by omega)).trans (L.blk (en.blk hbr));have Rn9:I1 w9 (fun y=> S y\/w.heap.size+3<=y/\y < w9.heap.size) cs.toList s:=Rn.mono (fun y l=> .inl l) (fun y l=>(keep y (by have:=hS y l;omega)).trans (L.heap y (hS7 y l)));have Dk:InT w9 (fun y=> S y\/w.heap.size+3<=y/\y < w9.heap.size) (m8 (.mk T Q q17) r (.mk J K us)) (M0 x1 x2 x3 x4 x5):=InT.mono (fun y l=> by
    rcases l with l|l
    · exact .inl l
    · have h9:D.heap.size<=y:=l.1
      have h8:=l.2;exact .inr ⟨by omega,by omega⟩) (fun y l=> keep y (by
    rcases l with l|l
    · have:=hS y l;omega
    · have h9:D.heap.size<=y:=l.1
      omega)) Jt
   have hR9:=I1.set Dk m Rn9;have hK9:=I1.inL Ee (pre:= []) hR9 (by simp[Array.toList_setIfInBounds]);have HK9:=hdq hK9;have HKP:=hdq Ba;obtain⟨y0,y1,y2,-,-,-⟩:=own3 bn9;obtain⟨s0,s1,s2,f0,f1,f2⟩:=own3 Ln;have hwg:w.heap.size+1+1 < w9.heap.size:=O1 Ln;have hgg:g < w9.heap.size:=O1 Ee;clear keep Ba hK9 hR9 Dk Rn9 Rn rn Ee N bn9 Ln Jt I Ke hbr Ct;go_wp2_with fail;refine aP (v:= M0 k B (some ⟨g,0,none⟩) s.length c) (by simp[results,results175,go_sem,s0,s1,s2]) rfl ⟨_,rfl, ?_, ?_⟩
   · refine InT.mk_iff.2 ⟨some ⟨g,0,none⟩,c,by rw[gQ],by rw[gQ];exact hc1,Ht,.inr ⟨g,0,rfl,.inr ⟨by omega,by simpa using hgg⟩, ?_⟩⟩
     refine O4.mono (S:=fun y=> S y\/w.heap.size+3<=y/\y < w9.heap.size) (fun y l=> ?_) (fun y l=> ?_) (.inr ⟨by omega,hgg⟩) HK9.out
     · rcases l with l|l
       · exact .inl l
       · exact .inr ⟨by omega,by simpa using l.2⟩
     · have hne:y≠w.heap.size+1+1:=by
        rcases l with l|l
        · have:=hS y l;omega
        · omega
       rw[aM _ _ _ _ hne,aM _ _ _ _ hne,aM _ _ _ _ hne]
   · exact((HKP.out.setCell (by show w.heap.size<=w.heap.size+1+1;omega) _).setCell (by show w.heap.size<=w.heap.size+1+1;omega) _).setCell (by show w.heap.size<=w.heap.size+1+1;omega) _)
theorem B2.rowL{w:aL}{e:aZ}{S:Nat->Prop}: ∀{c:List aT} {d:List Tr} {L:List Nat},B2 w e c d L->(∀b,b∈L->S b)->I1 w S c d
 |_, [],_,_,_=> I1.nil
 |c,t::ts,L,h,hS=> by
  obtain⟨v0,v1,v2,rest,i,j,rfl,g,f,rfl⟩:=B2.cons_iff.1 h;exact I1.cons_iff.2 ⟨v0,v1,v2,rest,rfl,g.inT.mono (fun b a=> hS b (by simp[a])) (fun _ _=> rfl),B2.rowL f (fun b a=> hS b (by simp[a]))⟩
theorem N4.toS{W w:aL}{e:aZ}{v:aT}{d:List Tr}(h:N4 W w e v d):T8 (fun b=> b < W.heap.size) W w e v d:=by
 obtain⟨g,L,k,i,c,f⟩:=h;exact⟨g,k,i.rowL (fun b a=>⟨(c.2 b a).2,fun j=> f b j a,by have:=(c.2 b a).1;omega⟩)⟩
theorem tI(k n:Int)(a:List Tr)(w:aL)(v:aT)(b8:Lies w (.mk k n a) v)(P6:cnt (.mk k n a)<=1000000):
 Calls prog 46 #[v] w fun e g=> ∃B c,e= .returned (.agg #[.int .i64 k,.int .i64 n,.slice B a.length c])/\(∃E:aL,w.heap.size<=E.heap.size/\T8 (fun b=> b < E.heap.size) E g 25 (.slice B a.length c) a/\E.heap.size<=g.heap.size)/\Ext w g:=by
 obtain⟨A,cap,rfl,hl,hc,hK⟩:=Lies.mk_iff.1 b8;obtain⟨i0,hi,Q,M,F⟩:=info_parts oA;have x:=hc;unfold aV at x;simp only[cnt] at P6;have hlc:=Lf a;go_enter func46,ntmps46;go_wp2_with fail;obtain⟨d,m⟩: ∃d,d=(w.alloc (.cells #[.int .i64 k,.int .i64 n,.slice A a.length cap] 25)).alloc (.cells #[.int .i64 0,.int .i64 0,.slice none 0 0] 25):=⟨_,rfl⟩;obtain⟨W,C⟩: ∃W,W=d.alloc (.cells #[.int .i64 k,.int .i64 n,.slice none 0 0] 25):=⟨_,rfl⟩;have N:d.heap.size=w.heap.size+1+1:=by rw[m];simp
 have mb:W.heap.size=w.heap.size+3:=by rw[C];simp;omega
 have X:Ext w d:=m▸((xr w).alloc _).alloc _;have cn:Ext d W:=C▸(xr d).alloc _;have F3:d.heap[w.heap.size+1]? =some (.cells #[.int .i64 0,.int .i64 0,.slice none 0 0] 25 (0,0)):=by
  rw[m];exact(blk2 (xr _)).2.1
 have ei:W.heap[w.heap.size+1+1]? =some (.cells #[.int .i64 k,.int .i64 n,.slice none 0 0] 25 (0,0)):=by
  have:=aS d (.cells #[.int .i64 k,.int .i64 n,.slice none 0 0] 25);rw[N] at this;rw[C];exact this
 have U:d.heap[w.heap.size]? =some (.cells #[.int .i64 k,.int .i64 n,.slice A a.length cap] 25 (0,0)):=by
  rw[m];exact(blk2 (xr _)).1
 rw[<-m,<-C];clear C m
 go_loopw [4] (fun i wr=> ∃(j:Nat) (v:aT),j<=a.length/\i= .int .i64 j/\wr.heap[w.heap.size+1+1]? =some (.cells #[.int .i64 k,.int .i64 n,v] 25 (0,0))/\N4 W wr 25 v (a.take j)/\Ext d wr/\W.heap.size<=wr.heap.size) (fun i _=> a.length -(intOf i).toNat)
 case atStart=> exact⟨0,_,bV _,rfl,ei,N4.nil _ _ _,cn,aN _⟩
 case round=>
  obtain⟨j,v,hj,rfl,D,hG,l,t⟩:=hrel;by_cases z:j < a.length
  · obtain⟨b,o,k',n',A',cap',kids,rfl,HK,c0,c1,c2,I5,I3,hK',x7,e9⟩:=hK.get (X.trans l) z
    have I0:=fV z;rw[HK.out] at I0;have hcm:=k9 e9;have s:(a.take j).length < 1099511627776:=by rw[dM];omega
    have U9:(a.take j).length=j:=by rw[dM];omega
    have HL:=hdq U9;have J:=l.blk U;obtain⟨-,-,t2,-,-,-⟩:=own3 J;have hj':(j:Int) <(a.length:Int):=by omega
    go_wp2_with fail;have T:=t;have I2:=hG;have Y:=D;have hv:=U1 Y 2;have Z: ∀g,Below W.heap.size wr g->g.heap[w.heap.size+1+1]? =some (.cells #[.int .i64 k,.int .i64 n,v] 25 (0,0)):=fun g hB=>(hB.block (w.heap.size+1+1) (by omega)).trans Y
    have y:=hdq Z;have R:Ext wr wr.drew:=(xr wr).drew;have U3:=x7.ext R;have dz:=l;clear Z U9 D hG l t x
    go_region_law (first|(go_simp;go_at_call 46;refine(Vf _ _ _ U3 (by omega)).mono ?_;rintro e w4 ⟨u,rfl,P,K⟩;obtain⟨a1,a2,a3,a4,a5,rfl⟩:=P.three';have r:=U1 (y.out _ ((R.trans K).below T)) 2;have iz:=bU _ _ r) |(refine qE _ (by rfl) (.tmp 18) (.tmp 25) _ (by rfl) 25 i0 _ underlying23 hi Q M F rfl (by rfl) I2 T (R.trans K) (P.since (aN _)) ((xr _).alloc _) (by rfl) (aS _ _) s ?_;intro v' V S q;obtain⟨G,H,rfl,q1,q2,-⟩:=S.made;have kr:=U1 (y.out _ q) 2;have ui:=ib (y.out _ q) 2))
    all_goals(
     have W8:Ext d V:=dz.trans' q (by omega);have hs5:=q.size;have ba:=y.out _ q;rw[List.length_append,List.length_singleton,I0,show(a.take j).length+1=min (j+1) a.length from by rw[dM];omega] at S;have jh:=fun u=> S.after ((ja.refl W.heap.size V).setCell (p:=⟨w.heap.size+1+1,2,none⟩) (by show w.heap.size+1+1 < W.heap.size;omega) u)
     clear r iz hv y P K c0 c1 c2 t2;go_wp2_with fail
     go_roundw
     case rel=> exact⟨j+1,_,by omega,by go_num,N5 ba 2 _,jh _,W8.setCell (by show _<=w.heap.size+1+1;omega) _,by simp;omega⟩
     case measure=> simp[intOf];omega)
  · obtain⟨G,H,rfl,q1,q2,Y5⟩:=hG.made
    have I:=hG.toS;have L:j=a.length:=by omega
    have O:(a.take j).length=a.length:=by rw[L,jL]
    obtain⟨r0,r1,r2,-,-,-⟩:=own3 D;have J:=l.blk U;obtain⟨-,-,t2,-,-,-⟩:=own3 J;have P3:=l.blk F3;obtain⟨s0,s1,s2,f0,f1,f2⟩:=own3 P3;rw[O] at q1 r2;rw[show a.take j=a from by rw[L,jL]] at Y5;rw[O] at I;clear O D;go_wp2_with fail;refine aP (v:= .agg #[.int .i64 k,.int .i64 n,.slice G a.length H]) (by simp[results,results46,go_sem,s0,s1,s2]) rfl ⟨G,H,rfl,⟨W,by omega, ?_,by simp;omega⟩, ?_⟩
    · rw[show a.take j=a from by rw[L,jL]] at I
      exact((I.only (D1.one _ (w.heap.size+1) 0 _) (by intro b f;rw[List.mem_singleton.1 f];omega) (fun b f=> f)).only (D1.one _ (w.heap.size+1) 1 _) (by intro b f;rw[List.mem_singleton.1 f];omega) (fun b f=> f)).only (D1.one _ (w.heap.size+1) 2 _) (by intro b f;rw[List.mem_singleton.1 f];omega) (fun b f=> f)
    · exact((((X.trans l).setCell (by simp) _).setCell (by simp) _).setCell (by simp) _)
end Go.Proofs.YtckhbnmfnpolgaaGreat
namespace Go.Proofs.YtckhbnmfnpolgaaGreat
open Go.RowKit
def Zf(W w:aL)(e:aZ)(v:aT)(c:List Tr)(n:Nat):Prop:=
 c.length=n*2/\ ∃a,w.ownsRow W.heap.size e 6 v n a/\I1 w (fun b=> W.heap.size<=b/\b < w.heap.size/\v.ownBlock≠some b) a c
theorem oH{w b:aL}{base:Nat}{e:aZ}{v:aT}{n:Nat}{c:List aT}(h:w.ownsRow base e 6 v n c)(i: ∀g,v.ownBlock=some g->b.heap[g]? =w.heap[g]?):b.ownsRow base e 6 v n c:=by
 refine⟨h.1, ?_⟩;rcases h.2 with h|⟨g,cap,a,rfl,f,d,r⟩
 · exact .inl h
 · exact .inr ⟨g,cap,a,rfl,f,(i g rfl).trans d,r⟩
theorem Zf.nil(W w:aL)(e:aZ):Zf W w e (.slice none 0 0) [] 0:=⟨rfl, [],World.ownsRow_nil _ _ _ _,I1.nil⟩
theorem Zf.same{W w c:aL}{e:aZ}{v:aT}{i:List Tr}{n:Nat}(h:Zf W w e v i n)(hs:w.heap.size<=c.heap.size)(a: ∀b,W.heap.size<=b->b < w.heap.size->c.heap[b]? =w.heap[b]?):Zf W c e v i n:=by
 obtain⟨j,k,d,l⟩:=h;exact⟨j,k,oH d (fun g f=> a g (d.lt g f).1 (d.lt g f).2),l.mono (fun b a=>⟨a.1,aY a.2.1 hs,a.2.2⟩) (fun b hm=> a b hm.1 hm.2.1)⟩
theorem Zf.only{W w c:aL}{e:aZ}{v:aT}{d:List Tr}{n:Nat}{L:List Nat}(h:Zf W w e v d n)(a:D1 L w c)(g: ∀b,b∈L->b < W.heap.size):Zf W c e v d n:=
 h.same a.size (fun b i f=> a.block b f (fun hm=> by have:=g b hm;omega))
theorem Zf.slice{W w:aL}{e:aZ}{v:aT}{ks:List Tr}{n:Nat}(h:Zf W w e v ks n): ∃A cap,v= .slice A n cap/\n<=cap/\cap<=aV/\xb W.heap.size w A ks:=by
 obtain⟨o,p,m,k⟩:=h;rcases m.2 with⟨rfl,a⟩ |⟨g,cap,d,rfl,c,i,l,f,j,ht⟩
 · have:ks= []:=bO (by omega)
   subst this;exact⟨none,0,by rw[a],by omega,bV _,.inl rfl⟩
 · refine⟨_,cap,rfl,l,f,.inr ⟨g,0,rfl,⟨c,O1 i⟩, ?_⟩⟩
   have a:=I1.tail (d.toList.drop (n*6)) (k.mono (S':=fun b=> W.heap.size<=b/\b < w.heap.size) (fun b c=>⟨c.1,c.2.1⟩) (fun _ _=> rfl));rw[<-ht,iQ] at a;exact I1.inL i (pre:= []) a (by simp)
theorem Zf.cap{W w:aL}{e:aZ}{A:Option Addr}{n cap b:Nat}{ks:List Tr}(h:Zf W w e (.slice A n cap) ks b):A=none->cap=0:=by
 obtain⟨i,j,f,k⟩:=h;intro hA;rcases f.2 with⟨a,-⟩ |⟨g,c,d,a,-⟩
 · simp only[jR] at a
   exact a.2.2
 · simp only[jR] at a
   rw[hA] at a;cases a.1
theorem I1.append{w:aL}{S:Nat->Prop}{d:List aT}{ts:List Tr}(ht:I1 w S d ts): ∀{a:List aT} {b:List Tr},a.length=b.length*3->I1 w S a b->I1 w S (a++d) (b++ts)
 |a, [],hx,h=> by
  have c:a= []:=bO (by simpa using hx);subst c;exact ht
 |a,x::b,hx,h=> by
  obtain⟨g,i,e,rest,rfl,j,f⟩:=I1.cons_iff.1 h;exact I1.cons_iff.2 ⟨g,i,e,_,rfl,j,I1.append ht (by simp only[cN] at hx;omega) f⟩
theorem I1.two{w:aL}{S:Nat->Prop}{t u:Tr}{v0 v1 v2 v3 v4 a:aT}(c:InT w S t (.agg #[v0,v1,v2]))(b:InT w S u (.agg #[v3,v4,a])):I1 w S [v0,v1,v2,v3,v4,a] [t,u]:=
 I1.cons_iff.2 ⟨v0,v1,v2,_,rfl,c,I1.cons_iff.2 ⟨v3,v4,a,_,rfl,b,I1.nil⟩⟩
theorem Zf.row{W w:aL}{e:aZ}{v:aT}{f:List Tr}{n:Nat}(h:Zf W w e v f n)(hn:0 < n): ∃g cap,v= .slice (some ⟨g,0,none⟩) n cap/\W.heap.size<=g/\g < w.heap.size/\n<=cap/\cap<=aV/\
 ∀j,j < n*6-> ∃x,w.cell? ⟨g,j,none⟩=some x/\w.frozen? ⟨g,j,none⟩=false:=by
 obtain⟨q,r,k,o⟩:=h;rcases k.2 with⟨rfl,m⟩ |⟨g,cap,c,rfl,l,b,i,d,a,ht⟩
 · omega
 · exact⟨g,cap,rfl,l,O1 b,i,d,fun j p=>⟨c[j]'(by rw[a];omega),by rw[U1 b];exact Array.getElem?_eq_getElem _,ib b _⟩⟩
def conA(t:Tr)(p:List Int):Tr:=match aa t p with
 |some u=> m8 t p (ctrT u)
 |none=> j2
def bb(t:Tr)(p:List Int):Bool:=match aa t p with
 |some u=> Hf u
 |none=> false
def we(t:Tr)(p:List Int):Tr×Bool:=if j0 D0 (conA t p)=true then(conA t p,true) else(j2,false)
def gk(t:Tr):Tr×Int:=match outT t with
 |none=>(t,0)
 |some p=> if j0 D0 (conA t p)=true then(conA t p,1) else(j2,2)
def V4:Nat->Tr->Tr×Int
 |0,t=> match outT t with
  |none=>(t,0)
  |some _=>(j2,1)
 |f+1,t=> match outT t with
  |none=>(t,0)
  |some p=> if j0 D0 (conA t p)=true then V4 f (conA t p) else(j2,2)
def Me(t:Tr)(f:Int):Tr×Int:=if(j0 D0 t && db f 0 200)=true then V4 f.toNat t else(j2,3)
def Yc(a b:Tr)(f:Int):Int:=if(j0 D0 a &&(j0 D0 b && db f 0 200))=true then(if a=b then 1 else if(V4 f.toNat a).2=0/\(V4 f.toNat b).2=0 then(if(V4 f.toNat a).1=(V4 f.toNat b).1 then 1 else 2) else 3) else 0
theorem nu{t:Tr}{p:List Int}(h:bb t p=true): ∃u,aa t p=some u/\Hf u=true:=by
 unfold bb at h;cases e:aa t p with
 |none=> rw[e] at h;cases h
 |some u=> rw[e] at h;exact⟨u,rfl,h⟩
theorem Xv{k n:Int}{a:List Tr}:Hf (.mk k n a)=true↔rdx k a≠0:=by simp[Hf,Y3]
theorem oJ{a:List Tr}: ∀{i:Nat} {x:Tr},Par (kd a i) x->i5 a (a.set i x):=by
 induction a with
 |nil=> intro i x _;exact .nil
 |cons t ts ih=>
  intro i x h;cases i with
  |zero=> exact .cons h (i5.refl ts)
  |succ i=> exact .cons (Par.refl t) (ih h)
theorem nC: ∀(p:List Int) (t u a:Tr),aa t p=some u->Par u a->Par t (m8 t p a)
 | [],t,u,a,h,b=> by
  have e:t=u:=by cases t;simpa[aa] using h
  subst e;rw[YB];exact b
 |i::r,.mk k n c,u,a,h,b=> by
  rw[aa] at h
  split at h
  · rw[m8]
    exact .node (oJ (nC r _ u a h b))
  · cases h
theorem Nn{u:Tr}(h:Hf u=true):Par u (ctrT u):=by
 obtain⟨k,n,a⟩:=u;exact .red (Xv.1 h) (i5.refl a)
theorem WA{t:Tr}{p:List Int}(h:bb t p=true):Par t (conA t p):=by
 obtain⟨u,a,b⟩:=nu h;unfold conA;rw[a];exact nC p t u _ a (Nn b)
mutual
theorem Fm: ∀(t:Tr) (p:List Int),outT t=some p->bb t p=true
 | .mk k n a,p,h=> by
  rw[outT] at h
  split at h
  · obtain⟨j,r,rfl,d,b⟩:=kE a 0 p h
    unfold bb at b⊢;rw[aa,if_pos ⟨by omega,by omega⟩];rw[show(((0+j:Nat):Int)).toNat=j by omega];exact b
  · rename_i c
    cases h
    unfold bb;rw[show aa (.mk k n a) []=some (.mk k n a) from rfl];exact Xv.2 c
theorem kE: ∀(a:List Tr) (i:Nat) (p:List Int),Mc i a=some p-> ∃(j:Nat) (r:List Int),p=((i+j:Nat):Int)::r/\j < a.length/\bb (kd a j) r=true
 | [],i,p,h=> by rw[Mc] at h;cases h
 |t::ts,i,p,h=> by
  rw[Mc] at h;cases e:outT t with
  |some q=>
   rw[e] at h;cases h
   exact⟨0,q,rfl,by simp,Fm t q e⟩
  |none=>
   rw[e] at h;obtain⟨j,r,rfl,c,b⟩:=kE ts (i+1) p h;exact⟨j+1,r,by rw[show i+1+j=i+(j+1) by omega],by simpa using c,b⟩
end
theorem pA: ∀(f:Nat) (t x:Tr),j0 D0 t=true->V4 f t=(x,0)->X6 t x/\Ul x=true/\j0 D0 x=true
 |0,t,x,hv,h=> by
  unfold V4 at h;cases e:outT t with
  |none=>
   rw[e] at h;cases h
   have:=Wv t;rw[e] at this;exact⟨.refl _,by simpa using this.symm,hv⟩
  |some p=> rw[e] at h;cases h
 |f+1,t,x,hv,h=> by
  unfold V4 at h;cases e:outT t with
  |none=>
   rw[e] at h;cases h
   have:=Wv t;rw[e] at this;exact⟨.refl _,by simpa using this.symm,hv⟩
  |some p=>
   rw[e] at h;simp only at h
   split at h
   · rename_i hc
     obtain⟨b,a⟩:=pA f _ x hc h;exact⟨(X6.one (WA (Fm t p e))).trans b,a⟩
   · cases h
theorem NA{t u:Tr}{p:List Int}(h:j0 D0 t=true)(e:aa t p=some u):j0 D0 u=true:=by
 obtain⟨b,c⟩:=Z3 h;have d:=bz p t u e;have a:=oB p t u 30 b e;unfold j0;rw[Px a (by omega),Bool.true_and,decide_eq_true_eq];omega
theorem YE{t:Tr}{p:List Int}{u:Tr}(h:aa t p=some u)(hv:j0 D0 (conA t p)=true):j0 D0 (ctrT u)=true:=by
 unfold conA at hv;rw[h] at hv;exact NA hv (LA p t (ctrT u) u h).1
end Go.Proofs.YtckhbnmfnpolgaaGreat
namespace Go.Proofs.YtckhbnmfnpolgaaGreat
open Go.RowKit
attribute [local go_sem ↓] Go.wp_at_zero Go.wp_at_succ
theorem FI:(prog.info? 25).map (fun i=>(i.zero,i.size,i.bytes))=some (some (M0 0 0 none 0 0),3,40):=by kernel_rfl
theorem FF{a:List Tr}{j m:Nat}(x:Tr)(h:j < a.length)(b:j≠m):(a.set m x).take (j+1)=(a.set m x).take j++ [a[j]]:=by
 have c:j <(a.set m x).length:=by rw[gQ];exact h
 rw[<-fV c,List.getElem_set_ne (by omega)]
theorem TF{a:List Tr}{m:Nat}(x:Tr)(h:m < a.length):(a.set m x).take (m+1)=(a.set m x).take m++ [x]:=by
 have b:m <(a.set m x).length:=by rw[gQ];exact h
 rw[<-fV b,List.getElem_set_self]
theorem SH(k n:Int)(a:List Tr)(kid:Tr)(m:Nat)(t:Nat->Prop)(w:aL)(v vk:aT)(b8:Lies w (.mk k n a) v)(Gl: ∀b,t b->b < w.heap.size)(J4:InT w t kid vk)(hm:m < a.length)(P6:cnt (.mk k n a)<=1000000):
 Calls prog 101 #[v,.int .i64 m,vk] w fun e E=> ∃x,e= .returned x/\InT E (fun b=> t b\/w.heap.size+4<=b/\b < E.heap.size) (.mk k n (a.set m kid)) x/\Ext w E:=by
 obtain⟨A,cap,rfl,hl,hc,hK⟩:=Lies.mk_iff.1 b8;obtain⟨J,M,K,H,L,rfl⟩:=Lies.three (InT.mono Gl (fun _ _=> rfl) J4);obtain⟨i0,hi,hz0,Y,Q⟩:=info_parts FI;have hcc:=hc;unfold aV at hcc;simp only[cnt] at P6;have hlc:=Lf a;go_enter func101,ntmps101;go_wp2_with fail;obtain⟨c,V⟩: ∃c,c=((w.alloc (.cells #[.int .i64 k,.int .i64 n,.slice A a.length cap] 25)).alloc (.cells #[.int .i64 J,.int .i64 M,.slice K H L] 25)).alloc (.cells #[.int .i64 0,.int .i64 0,.slice none 0 0] 25):=⟨_,rfl⟩;obtain⟨W,hW⟩: ∃W,W=c.alloc (.cells #[.int .i64 k,.int .i64 n,.slice none 0 0] 25):=⟨_,rfl⟩;have Z:c.heap.size=w.heap.size+3:=by rw[V];simp
 have mb:W.heap.size=w.heap.size+4:=by rw[hW];simp;omega
 have B8:Ext w c:=V▸(((xr w).alloc _).alloc _).alloc _;have cn:Ext c W:=hW▸(xr c).alloc _;obtain⟨S8,Iq,F3,-⟩:c.heap[w.heap.size]? =some (.cells #[.int .i64 k,.int .i64 n,.slice A a.length cap] 25 (0,0))/\c.heap[w.heap.size+1]? =some (.cells #[.int .i64 J,.int .i64 M,.slice K H L] 25 (0,0))/\c.heap[w.heap.size+1+1]? =some (.cells #[.int .i64 0,.int .i64 0,.slice none 0 0] 25 (0,0))/\True:=by
  rw[V];exact⟨(zc (xr _)).1,(zc (xr _)).2.1,(zc (xr _)).2.2.1,trivial⟩
 have ei:W.heap[w.heap.size+1+1+1]? =some (.cells #[.int .i64 k,.int .i64 n,.slice none 0 0] 25 (0,0)):=by
  have:=aS c (.cells #[.int .i64 k,.int .i64 n,.slice none 0 0] 25);rw[Z] at this;rw[hW];exact this
 rw[<-V,<-hW];have hsWa:w.heap.size+4<=W.heap.size:=by omega
 have hsWb:W.heap.size<=w.heap.size+4:=by omega
 have hs1a:w.heap.size+3<=c.heap.size:=by omega
 have hs1b:c.heap.size<=w.heap.size+3:=by omega
 clear hW V mb Z;have p: ∀b,((b < w.heap.size/\ ¬t b)\/w.heap.size<=b/\b < W.heap.size)->b < W.heap.size:=fun b d=> by rcases d with d|d <;> omega
 go_loopw [8] (fun i wr=> ∃(j:Nat) (v:aT),j<=a.length/\i= .int .i64 j/\wr.heap[w.heap.size+1+1+1]? =some (.cells #[.int .i64 k,.int .i64 n,v] 25 (0,0))/\T8 (fun b=>(b < w.heap.size/\ ¬t b)\/w.heap.size<=b/\b < W.heap.size) W wr 25 v ((a.set m kid).take j)/\Ext c wr/\W.heap.size<=wr.heap.size) (fun i _=> a.length -(intOf i).toNat)
 case atStart=> exact⟨0,_,bV _,rfl,ei,T8.nil _ _ _ _,cn,aN _⟩
 case round=>
  obtain⟨j,v,hj,rfl,z,hG,B,T⟩:=hrel;by_cases D:j < a.length
  · have r:((a.set m kid).take j).length < 1099511627776:=by rw[dM];omega
    obtain⟨-,-,t2,-,-,-⟩:=own3 (B.blk S8);obtain⟨u0,u1,u2,-,-,-⟩:=own3 (B.blk Iq);have hj':(j:Int) <(a.length:Int):=by omega
    have hv:=U1 z 2;have zg:=ib z 2;have g: ∀q,v.ownBlock=some q->W.heap.size<=q/\q < wr.heap.size:=by
     obtain⟨xs,g1,-⟩:=hG;exact fun q hq=> g1.lt q hq
    have qa:=hdq g;have hwrb:w.heap.size+1+1+1 < wr.heap.size:=O1 z;have B0:w.heap.size+1 < wr.heap.size:=by omega
    by_cases Cx:j=m
    · subst Cx
      have hjb:((j:Int)==(j:Int))=true:=by simp
      have N:=TF kid D;have jg:=hdq N;have I:=(xr wr).alloc (.cells #[.int .i64 J,.int .i64 M,.slice K H L] 25);have hGk:=hG.ext I;have hTk:InT (wr.alloc (.cells #[.int .i64 J,.int .i64 M,.slice K H L] 25)) (fun b=> b <(wr.alloc (.cells #[.int .i64 J,.int .i64 M,.slice K H L] 25)).heap.size/\v.ownBlock≠some b/\ ¬((b < w.heap.size/\ ¬t b)\/w.heap.size<=b/\b < W.heap.size)) kid (.agg #[.int .i64 J,.int .i64 M,.slice K H L]):=InT.mono (fun y f=> by
       have h2:y < w.heap.size:=Gl y f;exact⟨by simp;omega,fun hh=> by have:=(qa.out y hh).1;omega,fun hx=> by rcases hx with hx|hx;exact hx.2 f;omega⟩) (fun y f=>((B8.trans B).trans I).heap y (Gl y f)) J4
      have HBV:=hdq (I.blk z);have HG:=hdq hGk;have HT:=hdq hTk;clear g hG hGk hTk N z;go_wp2_with (at_builtin;refine KE _ rfl (.tmp 25) (.tmp 27) _ (by rfl) 25 i0 _ underlying23 hi hz0 Y Q rfl (by rfl) (W:=W) HG.out (by have:=I.size;omega) HT.out (by rfl) (aS _ _) r ?_ p)
      intro v' C s F;have W8:Ext c C:=(B.trans I).trans' F (by omega);have hs5:=F.size;have ba:=(F.block (w.heap.size+1+1+1) (by omega)).trans HBV.out;rw[<-jg.out] at s;obtain⟨B5,c5,rfl,-,-,-,-⟩:=s.lies p;obtain⟨l5,Av⟩: ∃l,((a.set j kid).take (j+1)).length=l:=⟨_,rfl⟩;rw[Av] at s⊢;clear Av;have Gs:W.heap.size<=C.heap.size:=by have:=I.size;omega
      have kr:=U1 ba 2;have ui:=ib ba 2;have Dg:=hdq s;clear hv zg t2 u0 u1 u2 s r;go_wp2_with fail
      go_roundw
      case rel=> exact⟨j+1,_,by omega,by go_num,N5 ba 2 _,Dg.out.only (D1.one C (w.heap.size+1+1+1) 2 _) (by intro b d;rw[List.mem_singleton.1 d];exact .inr ⟨by omega,by omega⟩) p,W8.setCell (by show _<=w.heap.size+1+1+1;omega) _,by simpa using Gs⟩
      case measure=> simp[intOf];omega
    · have hjb:((j:Int)==(m:Int))=false:=beq_eq_false_iff_ne.2 (by omega)
      obtain⟨b,o,k',n',A',cap',kids,rfl,HK,c0,c1,c2,I5,I3,hK',x7,e9⟩:=hK.get (B8.trans B) D;have N:=FF kid D Cx;rw[HK.out] at N;have jg:=hdq N;have hcm:=k9 e9;have x9:Ext wr wr.drew:=(xr wr).drew;have U3:=x7.ext x9;have p8: ∀E,Below W.heap.size wr E->E.heap[w.heap.size+1+1+1]? =some (.cells #[.int .i64 k,.int .i64 n,v] 25 (0,0)):=fun E hB=>(hB.block (w.heap.size+1+1+1) (by omega)).trans z
      have j8:=hdq p8;have HG:=hdq hG;go_wp2_with fail;clear p8 z hG g N hcc u0 u1 u2
      go_region_law (first|(go_simp;go_at_call 46;refine(Vf _ _ _ U3 (by omega)).mono ?_;rintro e w4 ⟨u,rfl,hM,U⟩;obtain⟨a1,a2,a3,a4,a5,rfl⟩:=hM.three';have P:=U1 (j8.out _ ((x9.trans U).below T)) 2;have iz:=bU _ _ P) |(refine aK _ (by rfl) (.tmp 31) (.tmp 38) _ (by rfl) 25 i0 _ underlying23 hi hz0 Y Q rfl (by rfl) (X:=fun b=>(b < w.heap.size/\ ¬t b)\/w.heap.size<=b/\b < W.heap.size) (W:=W) (tr:= .mk k' n' kids) (HG.out.ext ((x9.trans U).trans ((xr w4).alloc _))) (by have:=(x9.trans U).size;simp;omega) (InT.mono (fun y f=>⟨by have S:=f.2;simp;omega,fun hh=> by have S:wr.heap.size<=y:=f.1;have:=(qa.out y hh).2;omega,by have S:wr.heap.size<=y:=f.1;omega⟩) (fun y f=>((xr w4).alloc _).heap y f.2) (Y1.made hM)) (by rfl) (aS _ _) r ?_ p;intro v' C s F;obtain⟨B5,c5,rfl,-,-,-,-⟩:=s.lies p;obtain⟨l5,Av⟩: ∃l,((a.set m kid).take j++ [Tr.mk k' n' kids]).length=l:=⟨_,rfl⟩;rw[Av] at s⊢;clear Av;have G:Below W.heap.size wr C:=(((x9.trans U).trans ((xr w4).alloc _)).below T).trans F;have kr:=U1 (j8.out _ G) 2;have ui:=ib (j8.out _ G) 2))
      all_goals(
       have W8:Ext c C:=B.trans' G (by omega);have hs5:=G.size;have ba:=j8.out _ G;rw[<-jg.out] at s;have Dg:=hdq s;clear P iz hv j8 hM U c0 c1 c2 t2 s F G zg;go_wp2_with fail
       go_roundw
       case rel=> exact⟨j+1,_,by omega,by go_num,N5 ba 2 _,Dg.out.only (D1.one C (w.heap.size+1+1+1) 2 _) (by intro b d;rw[List.mem_singleton.1 d];exact .inr ⟨by omega,by omega⟩) p,W8.setCell (by show _<=w.heap.size+1+1+1;omega) _,by simp;omega⟩
       case measure=> simp[intOf];omega)
  · have kp:(a.set m kid).take j=a.set m kid:=List.take_of_length_le (by rw[gQ];omega)
    rw[kp] at hG;obtain⟨r0,r1,r2,-,-,-⟩:=own3 z;obtain⟨-,-,t2,-,-,-⟩:=own3 (B.blk S8);obtain⟨s0,s1,s2,f0,f1,f2⟩:=own3 (B.blk F3);have O:=fun(x0 x1 x2:aT)=>((hG.only (D1.one _ (w.heap.size+1+1) 0 x0) (by intro b d;rw[List.mem_singleton.1 d];exact .inr ⟨by omega,by omega⟩) p).only (D1.one _ (w.heap.size+1+1) 1 x1) (by intro b d;rw[List.mem_singleton.1 d];exact .inr ⟨by omega,by omega⟩) p).only (D1.one _ (w.heap.size+1+1) 2 x2) (by intro b d;rw[List.mem_singleton.1 d];exact .inr ⟨by omega,by omega⟩) p
    obtain⟨Bv,cv,rfl,q1,q2,-,-⟩:=hG.lies p;have zn:=hdq O;have Ba:=B8.trans B;clear O hG kp z;go_wp2_with fail;refine aP (v:= .agg #[.int .i64 k,.int .i64 n,.slice Bv a.length cv]) (by simp[results,results101,go_sem,s0,s1,s2]) rfl ⟨_,rfl, ?_, ?_⟩
    · obtain⟨Bv',cv',zj,q1',q2',hKK,-⟩:=(zn.out (.int .i64 k) (.int .i64 n) (.slice Bv a.length cv)).lies p
      simp only[jR,true_and] at zj;obtain⟨rfl,rfl⟩:=zj;have Ls:=InK.mono (S':=fun b=> t b\/w.heap.size+4<=b/\b <(((wr.setCell ⟨w.heap.size+1+1,0,none⟩ (.int .i64 k)).setCell ⟨w.heap.size+1+1,1,none⟩ (.int .i64 n)).setCell ⟨w.heap.size+1+1,2,none⟩ (.slice Bv a.length cv)).heap.size) (fun y f=> by
       have h8:=f.1;have S: ¬((y < w.heap.size/\ ¬t y)\/w.heap.size<=y/\y < W.heap.size):=f.2;by_cases R:t y
       · exact .inl R
       · refine .inr ⟨?_,h8⟩
         by_cases h7:y < w.heap.size
         · exact absurd (.inl ⟨h7,R⟩) S
         · have: ¬(w.heap.size<=y/\y < W.heap.size):=fun h=> S (.inr h)
           omega) (fun _ _=> rfl) hKK
      exact InT.mk_iff.2 ⟨_,_,by rw[gQ],by rw[gQ];simpa using q1,q2,Ls⟩
    · exact((Ba.setCell (by show _<=w.heap.size+1+1;omega) _).setCell (by show _<=w.heap.size+1+1;omega) _).setCell (by show _<=w.heap.size+1+1;omega) _
theorem JH(k n:Int)(c:List Tr)(kid:Tr)(m B:Nat)(w:aL)(v f:aT)(l:Lies w (.mk k n c) v)(i:Y1 B w kid f)(hB:B<=w.heap.size)(hm:m < c.length)(o:cnt (.mk k n c)<=1000000):
 Calls prog 101 #[v,m0 m,f] w fun e d=> ∃x,e= .returned x/\Y1 B d (.mk k n (c.set m kid)) x/\Ext w d:=
 (SH k n c kid m (fun b=> B<=b/\b < w.heap.size) w v f l (fun b a=> a.2) i hm o).mono fun e d ⟨x,p,j,g⟩=>⟨x,p,InT.mono (fun b a=> by
  have:=g.size;rcases a with a|a
  · exact⟨a.1,by have:=a.2;omega⟩
  · exact⟨by have:=a.1;omega,a.2⟩) (fun _ _=> rfl) j,g⟩
