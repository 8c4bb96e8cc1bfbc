/-
  Lemmas towards the law, 22: Put, ReadD, CtxI, Clone, RedP.
-/
import Derived.Test.YtbnkbepgmenblaaGreatDoorFAU
import Derived.Lib.Split
set_option linter.unusedVariables false
set_option maxHeartbeats 4000000
set_option maxRecDepth 100000
namespace Go.Proofs.YtbnkbepgmenblaaGreatDoor
open Go.RowKit
attribute [local go_sem ↓] Go.wp_at_zero Go.wp_at_succ
def putA:Tr->List Int->Tr->Tr
 |_, [],u=> u
 | .mk k n ks,i::r,u=> .mk k n (ks.set i.toNat (putA (kd ks i.toNat) r u))
theorem y76(t u:Tr):putA t [] u=u:=by cases t;rfl
theorem kd_set{ks:List Tr}{i:Nat}(h:i < ks.length)(x:Tr):kd (ks.set i x) i=x:=by
 unfold kd;rw[List.getD_eq_getElem?_getD,List.getElem?_set_self h]
 rfl
theorem set_kd{ks:List Tr}{i:Nat}(h:i < ks.length):ks.set i (kd ks i)=ks:=by
 unfold kd;rw[List.getD_eq_getElem?_getD,List.getElem?_eq_getElem h];exact List.set_getElem_self h
theorem j148: ∀(p:List Int) (t u o:Tr),atT t p=some o->atT (putA t p u) p=some u/\putA (putA t p u) p o=t
 | [],t,u,o,h=> by
  have e:t=o:=by cases t;simpa[atT] using h
  subst e;rw[y76,y76];exact⟨by cases u;rfl,rfl⟩
 |i::r,.mk k n ks,u,o,h=> by
  rw[atT] at h
  split at h
  · rename_i hi
    obtain⟨h1,h2⟩:=j148 r (kd ks i.toNat) u o h;have hl:i.toNat < ks.length:=by omega
    rw[putA,atT,List.length_set,if_pos hi,kd_set hl,putA,kd_set hl,h2,List.set_set,set_kd hl];exact⟨h1,rfl⟩
  · cases h
theorem y146: ∀{ks:List Tr} {i:Nat} (h:i < ks.length) (x:Tr),cnts (ks.set i x)+cnt (kd ks i)=cnts ks+cnt x
 |t::ts,0,h,x=> by simp[kd,cnts];omega
 |t::ts,i+1,h,x=> by
  have:=y146 (ks:=ts) (i:=i) (by simpa using h) x;rw[j163,List.set_cons_succ,cnts,cnts];omega
theorem j144: ∀(p:List Int) (t u o:Tr),atT t p=some o->cnt (putA t p u)+cnt o=cnt t+cnt u
 | [],t,u,o,h=> by
  have e:t=o:=by cases t;simpa[atT] using h
  subst e;rw[y76];omega
 |i::r,.mk k n ks,u,o,h=> by
  rw[atT] at h
  split at h
  · rename_i hi
    have h1:=j144 r (kd ks i.toNat) u o h;have h2:=y146 (ks:=ks) (i:=i.toNat) (by omega) (putA (kd ks i.toNat) r u);rw[putA,cnt,cnt];omega
  · cases h
theorem j75{P:Program}(w:World){ops:Array Oper}{rest:List Oper}{o:Oper}{a:Act}{Q:Exit->Act->World->Prop}(hgd:o.guard=none)(s x:Operand)(t:TypeId)
 (ho:o.op= .call {callee:= .builtin .append,args:=#[s,x],argTypes:=#[t,t]})
 (base:Nat) (e:TypeId) (i:TypeInfo) (z:Value) (ht:P.underlying t=some (.slice e)) (hi:P.info? e=some i) (hz:i.zero=some z) (hsize:i.size=3) (hby:i.bytes=40) (hzs:z.cells.size=3)
 {v:Value} {b0 o0 cap:Nat} {ks:List Tr} (hs:a.eval s=v) (hown:w.ownsRow base e 3 v 0 []) (hbase:base<=w.heap.size) (hx:a.eval x= .slice (some ⟨b0,o0,none⟩) ks.length cap) {S:Nat->Prop} (hS: ∀b,S b->b < w.heap.size/\v.ownBlock≠some b) (hK:InL w S b0 o0 ks) (hn:ks.length<=1048576) (h0:0 < ks.length)
 (h: ∀(c' g:Nat) (cs:Array Value) (w':World),w'.heap[g]? =some (.cells cs e (0,0))->base<=g->ks.length*3<=cs.size->RowL w' S cs.toList ks->ks.length<=c'->c'<=maxLen->w.grownBy w' v.ownBlock->wpList P ops Q rest (a.put o.dst (.slice (some ⟨g,0,none⟩) ks.length c')) w'):wpList P ops Q (o::rest) a w:=by
 refine wpList_plain hgd fun K hK'=> ?_
 obtain⟨xs,n1,n2,n3,n4⟩:=hK.rowL;obtain⟨v',w',hr,r1,r2,r3⟩:=y18 (P:=P) w base t o.type e i z 3 40 ht hi hz hsize hby hzs (by decide) v 0 [] hown ⟨b0,o0,none⟩ ks.length cap xs n1 (fun j u hu=> by rw[Addr.add_lit];exact n2 j u hu) n3 (by unfold maxLen;omega) (by omega) hbase;rw[Nat.zero_add,List.nil_append] at r1;unfold Oper.wp execOp;simp only[ho,resolve,invoke,builtin,Sem.run_bind,Sem.run_pure,Result.andThen_ok,List.map_toArray,List.map_cons,List.map_nil,hs,hx,hr];rcases r1.2 with⟨-,h5⟩ |⟨g,c',cs,rfl,hb,hg,ey,hcm,hcs,Mk⟩
 · omega
 · refine hK' _ _ (h c' g cs w' hg hb (by rw[hcs];exact Nat.mul_le_mul_right _ ey) ?_ ey hcm r2)
   have h6:=RowL.tail (cs.toList.drop (ks.length*3)) (n4.mono (fun _ h=> h) (fun b hb=> r2.block b (hS b hb).1 (fun he=>(hS b hb).2 he.symm)));rw[<-Mk,List.take_append_drop] at h6;exact h6
theorem q158:(Tryz.prog.info? 26).map (fun i=>(i.zero,i.size,i.bytes))=some (some (.agg #[.int .i64 0,.int .i64 0,.slice none 0 0]),3,40):=by kernel_rfl
theorem q99(ks:List Tr)(w:World)(S:Nat->Prop)(hS: ∀b,S b->b < w.heap.size)(b o cap:Nat)(hb:S b)(hK:InL w S b o ks)(hn:ks.length<=1048576)(h0:0 < ks.length):Calls Tryz.prog 129 #[.slice (some ⟨b,o,none⟩) ks.length cap] w fun e w'=>
 ∃(c g:Nat) (cs:Array Value),e= .returned (.slice (some ⟨g,0,none⟩) ks.length c)/\w'.heap[g]? =some (.cells cs 26 (0,0))/\w.heap.size<=g/\ks.length*3<=cs.size/\RowL w' S cs.toList ks/\ks.length<=c/\c<=maxLen/\Ext w w':=by
 obtain⟨i0,hi,hz0,hz1,hz2⟩:=info_parts q158;have hx:=(xr w).alloc (.cells #[] 26);have hK2:InL (w.alloc (.cells #[] 26)) S b o ks:=InL.mono (fun _ h=> h) (fun x hx'=> hx.heap x (hS x hx')) hb hK;have hG:(w.alloc (.cells #[] 26)).ownsRow w.heap.size 26 3 (.slice (some ⟨w.heap.size,0,none⟩) 0 0) 0 []:=World.ownsRow_lit w #[] 0 (Nat.le_refl _) (Nat.zero_le _) rfl;have hnil: ∀W,(binOp .eql 24 (.slice (some ⟨b,o,none⟩) ks.length cap) (.slice none 0 0)).run Tryz.prog W= .ok (.bool false) W:=fun W=> Lib.run_eql_slice_nil W 24 _ (some ⟨b,o,none⟩) ks.length cap 0 0 Tryz.underlying24
 clear hK;go_enter Tryz.func129,Tryz.ntmps129;go_wp2_with (at_builtin;refine j75 _ rfl (.tmp 5) (.tmp 6) 24 rfl w.heap.size 26 i0 _ Tryz.underlying24 hi hz0 hz1 hz2 rfl (S:=S) (v:= .slice (some ⟨w.heap.size,0,none⟩) 0 0) rfl hG (by simp) rfl (fun y hy=>⟨by have h9:y < w.heap.size:=hS y hy;simp;omega,by have h9:y < w.heap.size:=hS y hy;simp[Value.ownBlock];omega⟩) hK2 hn h0 ?_)
 intro c g cs w' r1 r2 r3 r4 r5 r6 r7;have hE:Ext w w':=hx.grown r7 (by intro k hk;simp[Value.ownBlock] at hk;omega);go_wp2_with fail;go_ret;exact⟨c,g,cs,rfl,r1,r2,r3,r4,r5,r6,hE⟩
structure PFs (w:World) (A:Option Addr) (n cap:Nat) (p:List Int):Prop where
 hn:p.length=n
 hl:n<=cap
 hc:cap<=maxLen
 hP:Nums w A p
theorem PFs.ext{w w':World}{A:Option Addr}{n cap:Nat}{p:List Int}(h:PFs w A n cap p)(he:Ext w w'):PFs w' A n cap p:=⟨h.hn,h.hl,h.hc,h.hP.ext he⟩
theorem PFs.tail{w:World}{b o n cap:Nat}{i:Int}{r:List Int}(h:PFs w (some ⟨b,o,none⟩) n cap (i::r)):PFs w (if cap=1 then some ⟨b,o,none⟩ else some ⟨b,o+1,none⟩) (n - 1) (cap - 1) r:=by
 obtain⟨h1,h2,h3,h4⟩:=h;simp only[List.length_cons] at h1;refine⟨by omega,by omega,by omega, ?_⟩;by_cases hc:cap=1
 · exact .inl (List.eq_nil_of_length_eq_zero (by omega))
 · rw[if_neg hc]
   rcases h4 with h4|⟨b',o',he,hb,hcell⟩
   · cases h4
   · simp only[Option.some.injEq,Addr.mk.injEq,and_true] at he
     obtain⟨rfl,rfl⟩:=he;refine .inr ⟨b,o+1,rfl,hb,fun j hj=> ?_⟩;have:=hcell (j+1) (by simpa using hj)
     rwa [show o+(j+1)=o+1+j by omega] at this
def PutC(p:List Int):Prop:= ∀(t u:Tr) (d:Int),shape sigT t d=true->(atT t p).isSome=true-> ∀(w:World) (vt vu:Value) (S:Nat->Prop),(∀b,S b->b < w.heap.size)->InT w S t vt->InT w S u vu-> ∀(A:Option Addr) (n cap:Nat),PFs w A n cap p->n<=1000->cnt t<=1000000->
 Calls Tryz.prog 114 #[vt,.slice A n cap,vu] w fun e w'=> ∃x,e= .returned x/\InT w' (fun b=> S b\/w.heap.size<=b/\b < w'.heap.size) (putA t p u) x/\Ext w w'
theorem put_any: ∀p:List Int,PutC p:=fun p=> by
 induction p with
 |nil=>
  intro t u d hsh hat w vt vu S hS hT hU A n cap hp I0 J2;obtain⟨k,nn,ks⟩:=t;obtain⟨At,ct,rfl,hlt,p9,Ep⟩:=InT.mk_iff.1 hT;obtain⟨ku,nu,us⟩:=u;have Nq:=hU;obtain⟨Au,cu,rfl,hlu,hcu,hKu⟩:=InT.mk_iff.1 hU;have H7:n=0:=hp.hn.symm;subst H7;have hx0:=(((xr w).alloc (.cells #[.int .i64 k,.int .i64 nn,.slice At ks.length ct] 26)).alloc (.cells #[.int .i64 ku,.int .i64 nu,.slice Au us.length cu] 26)).alloc (.cells #[.int .i64 0,.int .i64 0,.slice none 0 0] 26);obtain⟨hb0,hb1,hb2,hs2⟩:=blk3 (xr (((w.alloc (.cells #[.int .i64 k,.int .i64 nn,.slice At ks.length ct] 26)).alloc (.cells #[.int .i64 ku,.int .i64 nu,.slice Au us.length cu] 26)).alloc (.cells #[.int .i64 0,.int .i64 0,.slice none 0 0] 26)));go_enter Tryz.func114,Tryz.ntmps114;go_wp2_with fail;rw[y76];refine bodyPost_ret (v:= .agg #[.int .i64 ku,.int .i64 nu,.slice Au us.length cu]) (by simp[results,Tryz.results114,go_sem]) rfl ⟨_,rfl, ?_, ?_⟩
  · exact InT.mono (fun b hb=> .inl hb) (fun b hb=>((((xr w).alloc _).alloc _).alloc _).heap b (hS b hb)) Nq
  · exact(((xr w).alloc _).alloc _).alloc _
 |cons i r ih=>
  intro t u d hsh hat w vt vu S hS hT hU A n cap hp I0 J2;obtain⟨k,nn,ks⟩:=t;obtain⟨At,ct,rfl,hlt,p9,Ep⟩:=InT.mk_iff.1 hT;obtain⟨ku,nu,us⟩:=u;have Nq:=hU;obtain⟨Au,cu,rfl,hlu,hcu,hKu⟩:=InT.mk_iff.1 hU;have H7:n=r.length+1:=by have:=hp.hn;simpa using this.symm
  obtain⟨b1,o1,rfl,cp⟩:=hp.hP.get (xr w) (j:=0) (by simp);simp only[List.getElem_cons_zero,Nat.add_zero] at cp;have hi:0<=i/\i < ks.length:=by
   rw[atT] at hat
   split at hat
   · assumption
   · cases hat
  rw[atT,if_pos hi] at hat;obtain⟨m,rfl⟩:=Int.eq_ofNat_of_zero_le hi.1;have hm:m < ks.length:=by omega
  have Nj:((m:Int)).toNat=m:=by omega
  rw[Nj] at hat;have hput:putA (.mk k nn ks) ((m:Int)::r) (.mk ku nu us)= .mk k nn (ks.set m (putA (kd ks m) r (.mk ku nu us))):=by rw[putA,Nj]
  rw[hput];obtain⟨b,o,k2,n2,A2,c2,o8,rfl,ye,Gr,d0,d1,d2,jw,iu,hK2⟩:=InK.at_ Ep hm;have E4:kd ks m= .mk k2 n2 o8:=j79 hm Gr;obtain⟨-,-,-,hsk⟩:=j29 hsh;have Ii:shape sigT (.mk k2 n2 o8) (d - 1)=true:=by have:=hsk _ (List.getElem_mem hm);rwa [Gr] at this
  have Cm:InT w S (.mk k2 n2 o8) (.agg #[.int .i64 k2,.int .i64 n2,.slice A2 o8.length c2]):=InT.mk_iff.2 ⟨A2,c2,rfl,jw,iu,hK2⟩;have hcm:cnt (.mk k2 n2 o8)<=cnts ks:=by have:=q16 (List.getElem_mem hm);rwa [Gr] at this
  simp only[cnt] at J2;rw[E4] at hat⊢;have hKL:InL w S b o ks:=by
   rcases Ep with h|⟨b',o',he,-,hh⟩
   · subst h;simp at hm
   · simp only[Option.some.injEq,Addr.mk.injEq,and_true] at he
     obtain⟨rfl,rfl⟩:=he;exact hh
  have hlc:=j23 ks;have hbw:=hS b ye;have hb1w:b1 < w.heap.size:=World.block_lt_of_cell? _ _ cp;have hx0:=(((xr w).alloc (.cells #[.int .i64 k,.int .i64 nn,.slice (some ⟨b,o,none⟩) ks.length ct] 26)).alloc (.cells #[.int .i64 ku,.int .i64 nu,.slice Au us.length cu] 26)).alloc (.cells #[.int .i64 0,.int .i64 0,.slice none 0 0] 26);obtain⟨hb0,Kk,hbr,hs2⟩:=blk3 (xr (((w.alloc (.cells #[.int .i64 k,.int .i64 nn,.slice (some ⟨b,o,none⟩) ks.length ct] 26)).alloc (.cells #[.int .i64 ku,.int .i64 nu,.slice Au us.length cu] 26)).alloc (.cells #[.int .i64 0,.int .i64 0,.slice none 0 0] 26)));have hpt:=hp.tail;have hcpb:n<=cap:=hp.hl;have Jh:cap<=maxLen:=hp.hc;unfold maxLen at Jh;obtain⟨AD,Iq⟩: ∃AD,(if cap=1 then some (⟨b1,o1,none⟩:Addr) else some ⟨b1,o1+1,none⟩)=AD:=⟨_,rfl⟩;rw[Iq] at hpt;have HAD:=hdq Iq;have hnz:((n:Int)==0)=false:=beq_eq_false_iff_ne.2 (by omega);have hnz2:(n==0)=false:=beq_eq_false_iff_ne.2 (by omega);have Gt:(0:Int) <(n:Int):=by omega
  have Ei:(1:Int)<=(n:Int):=by omega
  have hn6:0 < n:=by omega
  have hn7:1<=n:=by omega
  have hn8:1<=cap:=by omega
  have Hw:(1:Int)<=(cap:Int):=by omega
  have Hb:(n:Int)<=(cap:Int):=by omega
  have xw:(m:Int) <(ks.length:Int):=by omega
  have hm3:(0:Int)<=(m:Int):=by omega
  clear Iq hput hsk Gr Nj hi H7 hT hU E4;go_enter Tryz.func114,Tryz.ntmps114;go_wp2_with fail;generalize World.alloc (World.alloc (World.alloc w _) _) _=wS at hx0 hb0 Kk hbr hs2⊢;obtain⟨z0,z1,z2,-,-,-⟩:=own3 hb0;have ua:=hdq (show∀w',Ext wS w'->w'.cell? ⟨w.heap.size,0,none⟩=some (.int .i64 k)/\w'.cell? ⟨w.heap.size,1,none⟩=some (.int .i64 nn)/\w'.cell? ⟨w.heap.size,2,none⟩=some (.slice (some ⟨b,o,none⟩) ks.length ct) from fun w' hw=>⟨hw.cell z0,hw.cell z1,hw.cell z2⟩);have X0:Ext wS wS.drew:=(xr wS).drew;have Hg: ∀y,S y->y < wS.heap.size:=fun y hy=> by have:=hS y hy;have:=hx0.size;omega
  have hKS:InL wS S b o ks:=InL.mono (fun _ h=> h) (fun y hy=> hx0.heap y (hS y hy)) ye hKL;have ri: ∀V,Ext wS V->InL V S b o ks:=fun V hV=> InL.mono (fun _ h=> h) (fun y hy=> hV.heap y (Hg y hy)) ye hKS
  have Ah:=hdq ri;clear ri z0 z1 z2
  go_region_held3 (fun w'=> w'.cell? ⟨w.heap.size,0,none⟩=some (.int .i64 k)/\w'.cell? ⟨w.heap.size,1,none⟩=some (.int .i64 nn)/\w'.cell? ⟨w.heap.size,2,none⟩=some (.slice (some ⟨b,o,none⟩) ks.length ct))
   (first|exact ua.out _ (((gv.setCell (p:=⟨wS.heap.size,0,none⟩) (Nat.le_refl _) _).setCell (p:=⟨wS.heap.size,1,none⟩) (Nat.le_refl _) _).setCell (p:=⟨wS.heap.size,2,none⟩) (Nat.le_refl _) _) |exact ua.out _ (gv.alloc _) |exact ua.out _ gv|exact ua.out _ X0|exact ua.out _ (X0.alloc _) |exact ua.out _ ((xr wS).alloc _).drew)
   (first|(go_at_call 129;refine(q99 ks _ S (fun y hy=> Nat.lt_of_lt_of_le (Hg y hy) (Ext.size (by first|exact X0|exact X0.alloc _|exact((xr wS).alloc _).drew))) b o ct ye (Ah.out _ (by first|exact X0|exact X0.alloc _|exact((xr wS).alloc _).drew)) (by omega) (by omega)).mono ?_;rintro e wd ⟨c,g,cs,rfl,hrow,ya,hcs,Gz,hc1,Mo,ed⟩;have gv:Ext wS wd:=(by first|exact X0.trans ed|exact(X0.alloc _).trans ed|exact(((xr wS).alloc _).drew).trans ed);(first|(have qb:wd.heap[wS.heap.size]? =some (.cells #[.int .i64 0,.int .i64 0,.slice none 0 0] 26 (0,0)):=ed.blk (heap_alloc_new wS.drew (.cells #[.int .i64 0,.int .i64 0,.slice none 0 0] 26));have hgb:wS.heap.size < g:=(by simp at ya;omega);obtain⟨sa,sb,sc,fa,fb,fc⟩:=own3 qb) |(have qb:wd.heap[wS.heap.size]? =some (.cells #[.int .i64 0,.int .i64 0,.slice none 0 0] 26 (0,0)):=ed.blk (heap_alloc_new wS (.cells #[.int .i64 0,.int .i64 0,.slice none 0 0] 26));have hgb:wS.heap.size < g:=(by simp at ya;omega);obtain⟨sa,sb,sc,fa,fb,fc⟩:=own3 qb) |(have qb:=trivial;have hgb:=trivial))))
  all_goals have hws:w.heap.size+3<=wS.heap.size:=by omega
  all_goals have hgS:wS.heap.size<=g:=by have h9:=ya;simp at h9;omega
  all_goals(first
   |(have en:Ext wS (wd.alloc (.cells #[.int .i64 k,.int .i64 nn,.slice (some ⟨g,0,none⟩) ks.length c] 26)):=gv.alloc _;have bn:=heap_alloc_new wd (.cells #[.int .i64 k,.int .i64 nn,.slice (some ⟨g,0,none⟩) ks.length c] 26);have rn:=((xr wd).alloc (.cells #[.int .i64 k,.int .i64 nn,.slice (some ⟨g,0,none⟩) ks.length c] 26)).blk hrow;have Rn:RowL (wd.alloc (.cells #[.int .i64 k,.int .i64 nn,.slice (some ⟨g,0,none⟩) ks.length c] 26)) S cs.toList ks:=Gz.mono (fun _ h=> h) (fun y hy=> Below.heap_alloc wd _ y (by have:=Hg y hy;have:=gv.size;omega));have gne:wd.heap.size≠g:=(by have:=j10 hrow;omega);have gw:wS.heap.size<=wd.heap.size:=gv.size;obtain⟨w7,D9⟩: ∃x,x=wd.alloc (.cells #[.int .i64 k,.int .i64 nn,.slice (some ⟨g,0,none⟩) ks.length c] 26):=⟨_,rfl⟩;rw[<-D9];rw[<-D9] at en bn rn Rn;clear D9;obtain⟨g7,B8⟩: ∃x,x=wd.heap.size:=⟨_,rfl⟩;rw[<-B8] at bn gne gw⊢;clear B8)
   |(have en:Ext wS (((wd.setCell ⟨wS.heap.size,0,none⟩ (.int .i64 k)).setCell ⟨wS.heap.size,1,none⟩ (.int .i64 nn)).setCell ⟨wS.heap.size,2,none⟩ (.slice (some ⟨g,0,none⟩) ks.length c)):=((gv.setCell (p:=⟨wS.heap.size,0,none⟩) (Nat.le_refl _) _).setCell (p:=⟨wS.heap.size,1,none⟩) (Nat.le_refl _) _).setCell (p:=⟨wS.heap.size,2,none⟩) (Nat.le_refl _) _;have bn:=q11 (q11 (q11 qb 0 (.int .i64 k)) 1 (.int .i64 nn)) 2 (.slice (some ⟨g,0,none⟩) ks.length c);have rn:=q12 (q12 (q12 hrow (p:=⟨wS.heap.size,0,none⟩) (by show g≠wS.heap.size;omega) (.int .i64 k)) (p:=⟨wS.heap.size,1,none⟩) (by show g≠wS.heap.size;omega) (.int .i64 nn)) (p:=⟨wS.heap.size,2,none⟩) (by show g≠wS.heap.size;omega) (.slice (some ⟨g,0,none⟩) ks.length c);have Rn:RowL (((wd.setCell ⟨wS.heap.size,0,none⟩ (.int .i64 k)).setCell ⟨wS.heap.size,1,none⟩ (.int .i64 nn)).setCell ⟨wS.heap.size,2,none⟩ (.slice (some ⟨g,0,none⟩) ks.length c)) S cs.toList ks:=Gz.mono (fun _ h=> h) (fun y hy=> by have h8:=Hg y hy;rw[Below.heap_setCell _ _ _ _ (by show y≠wS.heap.size;omega),Below.heap_setCell _ _ _ _ (by show y≠wS.heap.size;omega),Below.heap_setCell _ _ _ _ (by show y≠wS.heap.size;omega)]);have gne:wS.heap.size≠g:=(by omega);obtain⟨w7,D9⟩: ∃x,x=(((wd.setCell ⟨wS.heap.size,0,none⟩ (.int .i64 k)).setCell ⟨wS.heap.size,1,none⟩ (.int .i64 nn)).setCell ⟨wS.heap.size,2,none⟩ (.slice (some ⟨g,0,none⟩) ks.length c)):=⟨_,rfl⟩;rw[<-D9];rw[<-D9] at en bn rn Rn;clear D9;obtain⟨g7,B8⟩: ∃x,x=wS.heap.size:=⟨_,rfl⟩;have gw:wS.heap.size<=g7:=(by rw[B8];exact Nat.le_refl _);rw[<-B8] at bn gne⊢;clear B8))
  all_goals(
   try clear sa sb sc fa fb fc
   clear qb hgb gv ed hrow Gz ya X0 ua;have rf:Ext w w7:=hx0.trans en;obtain⟨y0,y1,y2,-,-,-⟩:=own3 bn;obtain⟨-,-,t2,-,-,-⟩:=own3 (en.blk hb0);obtain⟨v0,v1,v2,-,-,-⟩:=own3 (en.blk Kk);have p0:=rf.cell cp;have q0:=rf.cell d0;have q1:=rf.cell d1;have q2:=rf.cell d2;have B8:g7 < w7.heap.size:=j10 bn;have hgr:g < w7.heap.size:=j10 rn;have Hu:=hdq (show∀w':World,(∀y,y < w7.heap.size->y≠g->w'.heap[y]? =w7.heap[y]?)->w'.cell? ⟨g7,2,none⟩=some (.slice (some ⟨g,0,none⟩) ks.length c)/\w'.cell? ⟨w.heap.size,2,none⟩=some (.slice (some ⟨b,o,none⟩) ks.length ct)/\w'.cell? ⟨b1,o1,none⟩=some (.int .i64 m)/\w'.cell? ⟨b,o+m*3,none⟩=some (.int .i64 k2)/\w'.cell? ⟨b,o+m*3+1,none⟩=some (.int .i64 n2)/\w'.cell? ⟨b,o+m*3+2,none⟩=some (.slice A2 o8.length c2)/\w'.cell? ⟨w.heap.size+1,0,none⟩=some (.int .i64 ku)/\w'.cell? ⟨w.heap.size+1,1,none⟩=some (.int .i64 nu)/\w'.cell? ⟨w.heap.size+1,2,none⟩=some (.slice Au us.length cu) from fun w' hw=> by
    have f: ∀(y j:Nat) (x:Value),y < w7.heap.size->y≠g->w7.cell? ⟨y,j,none⟩=some x->w'.cell? ⟨y,j,none⟩=some x:=fun y j x h1 h2 h3=>(World.cell?_of_block (a:=⟨y,j,none⟩) (hw y h1 h2)).trans h3
    exact⟨f _ _ _ B8 gne y2,f _ _ _ (by omega) (by omega) t2,f _ _ _ (by omega) (by omega) p0,f _ _ _ (by omega) (by omega) q0,f _ _ _ (by omega) (by omega) q1,f _ _ _ (by omega) (by omega) q2,f _ _ _ (by omega) (by omega) v0,f _ _ _ (by omega) (by omega) v1,f _ _ _ (by omega) (by omega) v2⟩)
   have X7:Ext w7 w7.drew:=(xr w7).drew;have hS7: ∀y,S y->y < w7.heap.size:=fun y hy=> by have:=hS y hy;omega
   go_wp2_with fail;clear y0 y1 y2 t2 v0 v1 v2 p0 q0 q1 q2
   go_region_held3 (fun w'=> w'.cell? ⟨g7,2,none⟩=some (.slice (some ⟨g,0,none⟩) ks.length c)/\w'.cell? ⟨w.heap.size,2,none⟩=some (.slice (some ⟨b,o,none⟩) ks.length ct)/\w'.cell? ⟨b1,o1,none⟩=some (.int .i64 m)/\w'.cell? ⟨b,o+m*3,none⟩=some (.int .i64 k2)/\w'.cell? ⟨b,o+m*3+1,none⟩=some (.int .i64 n2)/\w'.cell? ⟨b,o+m*3+2,none⟩=some (.slice A2 o8.length c2)/\w'.cell? ⟨w.heap.size+1,0,none⟩=some (.int .i64 ku)/\w'.cell? ⟨w.heap.size+1,1,none⟩=some (.int .i64 nu)/\w'.cell? ⟨w.heap.size+1,2,none⟩=some (.slice Au us.length cu))
    (first|exact Hu.out _ (fun y h1 h2=> by rw[Below.heap_setCell _ _ _ _ h2,Below.heap_setCell _ _ _ _ h2,Below.heap_setCell _ _ _ _ h2];exact qc.heap y h1) |exact Hu.out _ (fun y h1 _=> qc.heap y h1) |exact Hu.out _ (fun y h1 _=> X7.heap y h1))
    (first|(go_at_call 114;(try rw[HAD.out]);refine(ih _ _ (d - 1) Ii hat w7.drew _ _ S (fun y hy=> hS7 y hy) (InT.mono (fun _ h=> h) (fun y hy=>(rf.trans X7).heap y (hS y hy)) Cm) (InT.mono (fun _ h=> h) (fun y hy=>(rf.trans X7).heap y (hS y hy)) Nq) _ _ _ (hpt.ext (rf.trans X7)) (by omega) (by omega)).mono ?_;rintro e w8 ⟨x,rfl,Nr,e8⟩;have qc:Ext w7 w8:=X7.trans e8;have Be:=Nr;obtain⟨x1,x2,x3,x4,x5,rfl⟩:=InT.three Be;clear Be;obtain⟨u0,u1,u2,r0,r1,r2,f0,f1,f2⟩:=cells3 (i:=m*3) (qc.blk rn) (by omega)))
   clear u0 u1 u2 r0 r1 r2 f0 f1 f2 Hu X7 e8 HAD;have Hz:=q11 (q11 (q11 (qc.blk rn) (m*3) (.int .i64 x1)) (m*3+1) (.int .i64 x2)) (m*3+2) (.slice x3 x4 x5);have keep: ∀y,y≠g->(((w8.setCell ⟨g,m*3,none⟩ (.int .i64 x1)).setCell ⟨g,m*3+1,none⟩ (.int .i64 x2)).setCell ⟨g,m*3+2,none⟩ (.slice x3 x4 x5)).heap[y]? =w8.heap[y]? :=fun y hy=> by rw[Below.heap_setCell _ _ _ _ hy,Below.heap_setCell _ _ _ _ hy,Below.heap_setCell _ _ _ _ hy]
   have Jr:(((w8.setCell ⟨g,m*3,none⟩ (.int .i64 x1)).setCell ⟨g,m*3+1,none⟩ (.int .i64 x2)).setCell ⟨g,m*3+2,none⟩ (.slice x3 x4 x5)).heap.size=w8.heap.size:=by simp
   have Mh:Ext w (((w8.setCell ⟨g,m*3,none⟩ (.int .i64 x1)).setCell ⟨g,m*3+1,none⟩ (.int .i64 x2)).setCell ⟨g,m*3+2,none⟩ (.slice x3 x4 x5)):=(((rf.trans qc).setCell (p:=⟨g,m*3,none⟩) (by show w.heap.size<=g;omega) _).setCell (p:=⟨g,m*3+1,none⟩) (by show w.heap.size<=g;omega) _).setCell (p:=⟨g,m*3+2,none⟩) (by show w.heap.size<=g;omega) _;obtain⟨w9,qf⟩: ∃x,x=(((w8.setCell ⟨g,m*3,none⟩ (.int .i64 x1)).setCell ⟨g,m*3+1,none⟩ (.int .i64 x2)).setCell ⟨g,m*3+2,none⟩ (.slice x3 x4 x5)):=⟨_,rfl⟩;rw[<-qf] at Hz keep Jr Mh⊢;clear qf;have hs78:=qc.size;have bn9:=(keep g7 gne).trans (qc.blk bn);have Il:=(keep (w.heap.size+1+1) (by omega)).trans (qc.blk (en.blk hbr));have Rn9:RowL w9 (fun y=> S y\/w.heap.size+3<=y/\y < w9.heap.size) cs.toList ks:=Rn.mono (fun y hy=> .inl hy) (fun y hy=>(keep y (by have:=hS y hy;omega)).trans (qc.heap y (hS7 y hy)));have Be:InT w9 (fun y=> S y\/w.heap.size+3<=y/\y < w9.heap.size) (putA (.mk k2 n2 o8) r (.mk ku nu us)) (.agg #[.int .i64 x1,.int .i64 x2,.slice x3 x4 x5]):=InT.mono (fun y hy=> by
    rcases hy with hy|hy
    · exact .inl hy
    · have h9:w7.heap.size<=y:=hy.1
      have h8:=hy.2;exact .inr ⟨by omega,by omega⟩) (fun y hy=> keep y (by
    rcases hy with hy|hy
    · have:=hS y hy;omega
    · have h9:w7.heap.size<=y:=hy.1
      omega)) Nr
   have hR9:=RowL.set Be m Rn9;have se:=RowL.inL Hz (pre:= []) hR9 (by simp[Array.toList_setIfInBounds]);have HK9:=hdq se;have HKP:=hdq Mh;obtain⟨y0,y1,y2,-,-,-⟩:=own3 bn9;obtain⟨s0,s1,s2,f0,f1,f2⟩:=own3 Il;have hwg:w.heap.size+1+1 < w9.heap.size:=j10 Il;have hgg:g < w9.heap.size:=j10 Hz;clear keep Mh se hR9 Be Rn9 Rn rn Hz bn bn9 Il Nr hb0 Kk hbr Ah;go_wp2_with fail;refine bodyPost_ret (v:= .agg #[.int .i64 k,.int .i64 nn,.slice (some ⟨g,0,none⟩) ks.length c]) (by simp[results,Tryz.results114,go_sem,s0,s1,s2]) rfl ⟨_,rfl, ?_, ?_⟩
   · refine InT.mk_iff.2 ⟨some ⟨g,0,none⟩,c,by rw[List.length_set],by rw[List.length_set];exact hc1,Mo,.inr ⟨g,0,rfl,.inr ⟨by omega,by simpa using hgg⟩, ?_⟩⟩
     refine InL.mono (S:=fun y=> S y\/w.heap.size+3<=y/\y < w9.heap.size) (fun y hy=> ?_) (fun y hy=> ?_) (.inr ⟨by omega,hgg⟩) HK9.out
     · rcases hy with hy|hy
       · exact .inl hy
       · exact .inr ⟨by omega,by simpa using hy.2⟩
     · have hne:y≠w.heap.size+1+1:=by
        rcases hy with hy|hy
        · have:=hS y hy;omega
        · omega
       rw[Below.heap_setCell _ _ _ _ hne,Below.heap_setCell _ _ _ _ hne,Below.heap_setCell _ _ _ _ hne]
   · exact((HKP.out.setCell (by show w.heap.size<=w.heap.size+1+1;omega) _).setCell (by show w.heap.size<=w.heap.size+1+1;omega) _).setCell (by show w.heap.size<=w.heap.size+1+1;omega) _)
end Go.Proofs.YtbnkbepgmenblaaGreatDoor
namespace Go.Proofs.YtbnkbepgmenblaaGreatDoor
theorem j131(c b:UInt8)(l:List UInt8):Lib.index (b::l) [c]=if b=c then 0 else if Lib.index l [c]= -1 then -1 else Lib.index l [c]+1:=by
 rw[Lib.index];by_cases h:b=c
 · subst h
   simp
 · have h2:(c==b)=false:=beq_eq_false_iff_ne.2 (fun e=> h e.symm)
   simp[h]
   intro e;exact absurd e.symm h
theorem q116(c:UInt8): ∀l:List UInt8,Lib.index l [c]= -1\/0<=Lib.index l [c]
 | []=> .inl rfl
 |b::l=> by
  rw[j131];have:=q116 c l
  split
  · exact .inr (by omega)
  · split
    · exact .inl rfl
    · exact .inr (by omega)
theorem q106(c:UInt8): ∀(l pre:List UInt8),cutS c pre l=if Lib.index l [c]= -1 then [pre++l] else(pre++l.take (Lib.index l [c]).toNat)::cutS c [] (l.drop ((Lib.index l [c]).toNat+1))
 | [],pre=> by simp[cutS,Lib.index]
 |b::l,pre=> by
  rw[cutS,j131];by_cases h:b=c
  · rw[if_pos h,if_pos h]
    simp
  · rw[if_neg h,if_neg h,q106 c l (pre++ [b])]
    rcases q116 c l with h1|h1
    · simp[h1]
    · rw[if_neg (show¬Lib.index l [c]= -1 by omega),if_neg (show¬Lib.index l [c]= -1 by omega),if_neg (show¬Lib.index l [c]+1= -1 by omega)]
      have e:(Lib.index l [c]+1).toNat=(Lib.index l [c]).toNat+1:=by omega
      rw[e];simp
theorem q129(c:UInt8): ∀(n:Nat) (l:List UInt8),l.length<=n->Lib.splitK [c] 0 (Lib.count l [c]) l=cutL c l
 |0,l,h=> by
  have:l= []:=List.eq_nil_of_length_eq_zero (by omega);subst this;rw[Lib.count_miss (by rfl)]
  rfl
 |n+1,l,h=> by
  unfold cutL;rw[q106];rcases q116 c l with h1|h1
  · rw[if_pos h1,Lib.count_miss h1]
    rfl
  · rw[if_neg (by omega),Lib.count_hit (i:=(Lib.index l [c]).toNat) (by simp) (by omega),Nat.add_comm 1,Lib.splitK,if_neg (by simp;omega)]
    have hl:=Lib.index_room l [c] h1;have ih:=q129 c n (l.drop ((Lib.index l [c]).toNat+1)) (by rw[List.length_drop];simp at hl;omega);unfold cutL at ih;simp only[List.length_cons,List.length_nil,Nat.zero_add,Nat.add_zero,List.nil_append];rw[ih]
end Go.Proofs.YtbnkbepgmenblaaGreatDoor
namespace Go.Proofs.YtbnkbepgmenblaaGreatDoor
open Go.RowKit
attribute [local go_sem ↓] Go.wp_at_zero Go.wp_at_succ
theorem j185(t:Tr)(w:World)(v:Value)(j8:Lies w t v):Calls Tryz.prog 73 #[v] w fun e w'=> e= .returned (.bool (!valid sigT t))/\Ext w w':=by
 have HV:=hdq (fun W (hW:Ext w W)=> j16 t W v (j8.ext hW));obtain⟨k,n,ks⟩:=t;obtain⟨A,cap,rfl,hl,hc,hK⟩:=Lies.mk_iff.1 j8;go_enter Tryz.func73,Tryz.ntmps73;go_wp2_with fail;refine(HV.out _ ((xr w).alloc _)).mono ?_;rintro e w1 ⟨rfl,h1⟩;go_wp2_with fail;go_ret;exact⟨rfl,h1.pre⟩
theorem j171(ks:List Tr)(w:World)(A:Option Addr)(cap:Nat)(hl:ks.length<=cap)(hc:cap<=maxLen)(h:y23 w A ks):
 Calls Tryz.prog 95 #[.slice A ks.length cap,.func (.func 73) #[] #[]] w fun e w'=> e= .returned (.int .i64 (q27 (fun t=> !valid sigT t) ks 0))/\Ext w w':=by
 obtain⟨p,hp⟩: ∃p:Tr->Bool,p=fun t=> !valid sigT t:=⟨_,rfl⟩
 have hf: ∀t∈ks,∀w' v,Ext w w'->Lies w' t v->Calls Tryz.prog 73 #[v] w' fun e w''=> e= .returned (.bool (p t))/\Ext w' w'':=fun t _ w' v _ hv=> by rw[hp];exact j185 t w' v hv
 rw[<-hp];clear hp;unfold maxLen at hc;go_enter Tryz.func95,Tryz.ntmps95;go_wp2_with fail
 go_loopw [8] (fun i wr=> ∃j:Nat,j<=ks.length/\i= .int .i64 j/\q27 p ks 0=q27 p (ks.drop j) j/\Ext w wr) (fun i _=> ks.length -(intOf i).toNat)
 case atStart=> exact⟨0,Nat.zero_le _,rfl,rfl,xr _⟩
 case round=>
  obtain⟨j,hj,rfl,F4,hx⟩:=hrel;have HE:=hdq F4;clear F4;by_cases hlt:j < ks.length
  · obtain⟨b,o,k,n,A',cap',kids,rfl,HK,c0,c1,c2,I6,G9,hK,j8,j6⟩:=h.get hx hlt
    have hst:q27 p (ks.drop j) j=if p (.mk k n kids)=true then(j:Int) else q27 p (ks.drop (j+1)) (j+1):=by
     rw[List.drop_eq_getElem_cons hlt,HK.out];conv=> lhs;unfold q27
    have HF:=hdq (hf _ j6);clear hf;go_wp2_with fail;refine(HF.out wr _ hx j8).mono ?_;rintro e w1 ⟨rfl,h1⟩;generalize p (.mk k n kids)=r at hst;cases r with
    |true=>
     rw[if_pos rfl] at hst;have HT:=hdq hst;clear hst;go_wp2_with fail;go_ret;exact⟨by rw[HE.out,HT.out];rfl,hx.trans h1⟩
    |false=>
     rw[if_neg (by decide)] at hst;have HT:=hdq hst;clear hst;go_wp2_with fail
     go_roundw
     case rel=> exact⟨j+1,by omega,by go_num,by rw[HE.out,HT.out],hx.trans h1⟩
     case measure=> simp[intOf];omega
  · go_wp2_with fail
    go_ret;exact⟨by rw[HE.out,List.drop_of_length_le (by omega)];rfl,hx⟩
theorem y124(ks:List Tr)(w:World)(A:Option Addr)(cap:Nat)(hl:ks.length<=cap)(hc:cap<=maxLen)(h:y23 w A ks):
 Calls Tryz.prog 37 #[.slice A ks.length cap] w fun e w'=> e= .returned (.bool (j63 ks))/\Ext w w':=by
 have hC:Calls Tryz.prog 65 #[.slice A ks.length cap,.func (.func 73) #[] #[]] w fun e w'=> e= .returned (.bool (ks.any (fun t=> !valid sigT t)))/\Ext w w':=by
  have HI:=hdq (j171 ks w A cap hl hc h);have HB:=hdq (q57 (fun t=> !valid sigT t) ks 0);go_enter Tryz.func65,Tryz.ntmps65;go_wp2_with fail;refine HI.out.mono ?_;rintro e w1 ⟨rfl,h1⟩;go_wp2_with fail;go_ret;exact⟨by rw[<-HB.out];rfl,h1⟩
 have HC:=hdq hC;have he:j63 ks=(decide (ks.length<=8)&& !ks.any (fun t=> !valid sigT t)):=rfl;clear hC;by_cases h8:ks.length<=8
 · rw[decide_eq_true h8,Bool.true_and] at he
   have d:decide ((ks.length:Int)<=8)=true:=decide_eq_true (by omega);have HE:=hdq he;clear he;go_enter Tryz.func37,Tryz.ntmps37;go_wp2_with fail;refine HC.out.mono ?_;rintro e w1 ⟨rfl,h1⟩;generalize ks.any (fun t=> !valid sigT t)=r at HE;go_wp2_with fail;go_ret;exact⟨by rw[HE.out];simp,h1⟩
 · rw[decide_eq_false h8,Bool.false_and] at he
   have d:decide ((ks.length:Int)<=8)=false:=decide_eq_false (by omega);have HE:=hdq he;clear he;go_enter Tryz.func37,Tryz.ntmps37;go_wp2_with fail;go_ret;exact⟨by rw[HE.out];rfl,xr _⟩
theorem j106:(Tryz.prog.info? 26).map (fun i=>(i.zero,i.size,i.bytes))=some (some (.agg #[.int .i64 0,.int .i64 0,.slice none 0 0]),3,40):=by kernel_rfl
theorem y74{P:Program}(w:World){ops:Array Oper}{rest:List Oper}{o:Oper}{a:Act}{Q:Exit->Act->World->Prop}(hgd:o.guard=none)(s x:Operand)(t:TypeId)
 (ho:o.op= .call {callee:= .builtin .append,args:=#[s,x],argTypes:=#[t,t]})
 (base:Nat) (e:TypeId) (i:TypeInfo) (z:Value) (ht:P.underlying t=some (.slice e)) (hi:P.info? e=some i) (hz:i.zero=some z) (hsize:i.size=3) (hby:i.bytes=40) (hzs:z.cells.size=3)
 {v:Value} {ad:Addr} {m cap:Nat} {xs:List Value} (hs:a.eval s=v) (hown:w.ownsRow base e 3 v 0 []) (hbase:base<=w.heap.size) (hx:a.eval x= .slice (some ad) m cap)
 (hl:xs.length=m*3) (hnews: ∀j u,xs[j]? =some u->w.cell? (ad.add j)=some u) (h1: ∀u∈xs,u.oneCell'=true) (hm:m<=1048576)
 (h: ∀v' w',w'.ownsRow base e 3 v' m xs->w.grownBy w' v.ownBlock->(∀g,v'.ownBlock=some g->v.ownBlock=some g\/w.heap.size<=g)->wpList P ops Q rest (a.put o.dst v') w'):wpList P ops Q (o::rest) a w:=by
 refine wpList_plain hgd fun K hK'=> ?_
 obtain⟨v',w',hr,r1,r2,r3⟩:=y18 (P:=P) w base t o.type e i z 3 40 ht hi hz hsize hby hzs (by decide) v 0 [] hown ad m cap xs hl hnews h1 (by unfold maxLen;omega) (by omega) hbase;rw[Nat.zero_add,List.nil_append] at r1;unfold Oper.wp execOp;simp only[ho,resolve,invoke,builtin,Sem.run_bind,Sem.run_pure,Result.andThen_ok,List.map_toArray,List.map_cons,List.map_nil,hs,hx,hr];exact hK' _ _ (h v' w' r1 r2 r3)
def ClnQ(w:World)(N:Nat->Prop)(ks:List Tr)(e:Ending)(w':World):Prop:= ∃v xs,e= .returned v/\w'.ownsRow w.heap.size 26 3 v ks.length xs/\RowL w' (fun b=> N b/\b < w.heap.size) xs ks/\Ext w w'
theorem y104(ks:List Tr)(w:World)(N:Nat->Prop)(A:Option Addr)(cap:Nat)(hK:InK w N A ks)(hn:ks.length<=1048576):Calls Tryz.prog 129 #[.slice A ks.length cap] w (ClnQ w N ks):=by
 obtain⟨i0,hi,hz0,hz1,hz2⟩:=info_parts j106;have hnil: ∀W,(binOp .eql 24 (.slice A ks.length cap) (.slice none 0 0)).run Tryz.prog W= .ok (.bool A.isNone) W:=fun W=> Lib.run_eql_slice_nil W 24 _ A ks.length cap 0 0 Tryz.underlying24
 cases A with
 |none=>
  have h0:ks= []:=by
   rcases hK with h|⟨b,o,h,-⟩
   · exact h
   · cases h
  subst h0;simp only[List.length_nil,Option.isNone_none] at hnil⊢;go_enter Tryz.func129,Tryz.ntmps129;go_wp2_with fail;go_ret;exact⟨_, [],rfl,World.ownsRow_nil _ _ _ _,RowL.nil,xr _⟩
 |some ad=>
  have hx:=(xr w).alloc (.cells #[] 26);have hG:(w.alloc (.cells #[] 26)).ownsRow w.heap.size 26 3 (.slice (some ⟨w.heap.size,0,none⟩) 0 0) 0 []:=World.ownsRow_lit w #[] 0 (Nat.le_refl _) (Nat.zero_le _) rfl;obtain⟨xs,n1,n2,n3,n4⟩: ∃xs:List Value,xs.length=ks.length*3/\(∀j u,xs[j]? =some u->(w.alloc (.cells #[] 26)).cell? (ad.add j)=some u)/\(∀u∈xs,u.oneCell'=true)/\RowL w (fun b=> N b/\b < w.heap.size) xs ks:=by
   rcases hK.bound with rfl|⟨b,o,h,hb,hL⟩
   · exact⟨[],rfl,fun j u h=> by simp at h,fun u h=> by simp at h,RowL.nil⟩
   · obtain⟨xs,n1,n2,n3,n4⟩:=hL.rowL
     simp only[Option.some.injEq] at h;subst h;exact⟨xs,n1,fun j u hu=> by rw[Addr.add_lit];exact hx.cell (n2 j u hu),n3,n4⟩
  have HN:=hdq n2;have H4:=hdq n4;simp only[Option.isNone_some] at hnil;clear hK n2 n4;go_enter Tryz.func129,Tryz.ntmps129;go_wp2_with (at_builtin;go_loud (refine y74 _ rfl (.tmp 5) (.tmp 6) 24 rfl w.heap.size 26 i0 _ Tryz.underlying24 hi hz0 hz1 hz2 rfl (v:= .slice (some ⟨w.heap.size,0,none⟩) 0 0) rfl hG (by simp) rfl n1 HN.out n3 hn ?_))
  intro v' w' r1 r2 r3;have hE:Ext w w':=hx.grown r2 (by intro k hk;simp[Value.ownBlock] at hk;omega);go_wp2_with fail;go_ret;exact⟨v',xs,rfl,r1,H4.out.mono (fun b hb=> hb) (fun b hb=> hE.heap b hb.2),hE⟩
end Go.Proofs.YtbnkbepgmenblaaGreatDoor
namespace Go.Proofs.YtbnkbepgmenblaaGreatDoor
open Go.RowKit
def conA(t:Tr)(p:List Int):Tr:=match atT t p with
 |some u=> putA t p (ctrT u)
 |none=> y14
def rdxA(t:Tr)(p:List Int):Bool:=match atT t p with
 |some u=> y155 u
 |none=> false
def conV(t:Tr)(p:List Int):Tr×Bool:=if valid sigT (conA t p)=true then(conA t p,true) else(y14,false)
def stepO(t:Tr):Tr×Int:=match outT t with
 |none=>(t,0)
 |some p=> if valid sigT (conA t p)=true then(conA t p,1) else(y14,2)
def nrmC:Nat->Tr->Tr×Int
 |0,t=> match outT t with
  |none=>(t,0)
  |some _=>(y14,1)
 |f+1,t=> match outT t with
  |none=>(t,0)
  |some p=> if valid sigT (conA t p)=true then nrmC f (conA t p) else(y14,2)
def y80(t:Tr)(f:Int):Tr×Int:=if(valid sigT t && inR f 0 200)=true then nrmC f.toNat t else(y14,3)
def j94(a b:Tr)(f:Int):Int:=if(valid sigT a &&(valid sigT b && inR f 0 200))=true then(if a=b then 1 else if(nrmC f.toNat a).2=0/\(nrmC f.toNat b).2=0 then(if(nrmC f.toNat a).1=(nrmC f.toNat b).1 then 1 else 2) else 3) else 0
theorem j96{t:Tr}{p:List Int}(h:rdxA t p=true): ∃u,atT t p=some u/\y155 u=true:=by
 unfold rdxA at h;cases e:atT t p with
 |none=> rw[e] at h;cases h
 |some u=> rw[e] at h;exact⟨u,rfl,h⟩
theorem q75{k n:Int}{ks:List Tr}:y155 (.mk k n ks)=true↔rdx k ks≠0:=by simp[y155,rdxT]
theorem q205{ks:List Tr}: ∀{i:Nat} {x:Tr},Par (kd ks i) x->Pars ks (ks.set i x):=by
 induction ks with
 |nil=> intro i x _;exact .nil
 |cons t ts ih=>
  intro i x h;cases i with
  |zero=> exact .cons h (Pars.refl ts)
  |succ i=> exact .cons (Par.refl t) (ih h)
theorem q180: ∀(p:List Int) (t u u':Tr),atT t p=some u->Par u u'->Par t (putA t p u')
 | [],t,u,u',h,hp=> by
  have e:t=u:=by cases t;simpa[atT] using h
  subst e;rw[y76];exact hp
 |i::r,.mk k n ks,u,u',h,hp=> by
  rw[atT] at h
  split at h
  · rw[putA]
    exact .node (q205 (q180 r _ u u' h hp))
  · cases h
theorem par_ctr{u:Tr}(h:y155 u=true):Par u (ctrT u):=by
 obtain⟨k,n,ks⟩:=u;exact .red (q75.1 h) (Pars.refl ks)
theorem j169{t:Tr}{p:List Int}(h:rdxA t p=true):Par t (conA t p):=by
 obtain⟨u,h1,h2⟩:=j96 h;unfold conA;rw[h1];exact q180 p t u _ h1 (par_ctr h2)
mutual
theorem q134: ∀(t:Tr) (p:List Int),outT t=some p->rdxA t p=true
 | .mk k n ks,p,h=> by
  rw[outT] at h
  split at h
  · obtain⟨j,r,rfl,h1,h2⟩:=y149 ks 0 p h
    unfold rdxA at h2⊢;rw[atT,if_pos ⟨by omega,by omega⟩];rw[show(((0+j:Nat):Int)).toNat=j by omega];exact h2
  · rename_i h0
    cases h
    unfold rdxA;rw[show atT (.mk k n ks) []=some (.mk k n ks) from rfl];exact q75.2 h0
theorem y149: ∀(ks:List Tr) (i:Nat) (p:List Int),q46 i ks=some p-> ∃(j:Nat) (r:List Int),p=((i+j:Nat):Int)::r/\j < ks.length/\rdxA (kd ks j) r=true
 | [],i,p,h=> by rw[q46] at h;cases h
 |t::ts,i,p,h=> by
  rw[q46] at h;cases e:outT t with
  |some q=>
   rw[e] at h;cases h
   exact⟨0,q,rfl,by simp,q134 t q e⟩
  |none=>
   rw[e] at h;obtain⟨j,r,rfl,h1,h2⟩:=y149 ts (i+1) p h;exact⟨j+1,r,by rw[show i+1+j=i+(j+1) by omega],by simpa using h1,h2⟩
end
theorem q50: ∀(f:Nat) (t x:Tr),valid sigT t=true->nrmC f t=(x,0)->Reds t x/\nrm x=true/\valid sigT x=true
 |0,t,x,hv,h=> by
  unfold nrmC at h;cases e:outT t with
  |none=>
   rw[e] at h;cases h
   have:=j110 t;rw[e] at this;exact⟨.refl _,by simpa using this.symm,hv⟩
  |some p=> rw[e] at h;cases h
 |f+1,t,x,hv,h=> by
  unfold nrmC at h;cases e:outT t with
  |none=>
   rw[e] at h;cases h
   have:=j110 t;rw[e] at this;exact⟨.refl _,by simpa using this.symm,hv⟩
  |some p=>
   rw[e] at h;simp only at h
   split at h
   · rename_i hc
     obtain⟨h1,h2⟩:=q50 f _ x hc h;exact⟨(Reds.one (j169 (q134 t p e))).trans h1,h2⟩
   · cases h
theorem y145{t u:Tr}{p:List Int}(h:valid sigT t=true)(e:atT t p=some u):valid sigT u=true:=by
 obtain⟨h1,h2⟩:=y11 h;have h3:=q177 p t u e;have h4:=q121 p t u 30 h1 e;unfold valid;rw[q59 h4 (by omega),Bool.true_and,decide_eq_true_eq];omega
theorem q174{t:Tr}{p:List Int}{u:Tr}(h:atT t p=some u)(hv:valid sigT (conA t p)=true):valid sigT (ctrT u)=true:=by
 unfold conA at hv;rw[h] at hv;exact y145 hv (j148 p t (ctrT u) u h).1
end Go.Proofs.YtbnkbepgmenblaaGreatDoor
