/-
  Lemmas towards the law, 25: Put, Shf.
-/
import Derived.Test.YtdkamgafpphdjaaGreatUAR
import Derived.Test.YtdkamgafpphdjaaGreatUAW
set_option maxHeartbeats 4000000
set_option maxRecDepth 100000
namespace Go.Proofs.YtdkamgafpphdjaaGreat
open Go.RowKit
set_option linter.unusedVariables false
attribute [local go_sem ↓] Go.wp_at_zero Go.wp_at_succ
def putA:Tr->List Int->Tr->Tr
 |_, [],u=> u
 | .mk k n ks,i::r,u=> .mk k n (ks.set i.toNat (putA (kd ks i.toNat) r u))
theorem q70(t u:Tr):putA t [] u=u:=by cases t;rfl
theorem kd_set{ks:List Tr}{i:Nat}(h:i < ks.length)(x:Tr):kd (ks.set i x) i=x:=by
 unfold kd;rw[List.getD_eq_getElem?_getD,List.getElem?_set_self h]
 rfl
theorem set_kd{ks:List Tr}{i:Nat}(h:i < ks.length):ks.set i (kd ks i)=ks:=by
 unfold kd;rw[List.getD_eq_getElem?_getD,List.getElem?_eq_getElem h];exact List.set_getElem_self h
theorem j150: ∀(p:List Int) (t u o:Tr),atT t p=some o->atT (putA t p u) p=some u/\putA (putA t p u) p o=t
 | [],t,u,o,h=> by
  have e:t=o:=by cases t;simpa[atT] using h
  subst e;rw[q70,q70];exact⟨by cases u;rfl,rfl⟩
 |i::r,.mk k n ks,u,o,h=> by
  rw[atT] at h
  split at h
  · rename_i hi
    obtain⟨h1,h2⟩:=j150 r (kd ks i.toNat) u o h;have hl:i.toNat < ks.length:=by omega
    rw[putA,atT,List.length_set,if_pos hi,kd_set hl,putA,kd_set hl,h2,List.set_set,set_kd hl];exact⟨h1,rfl⟩
  · cases h
theorem j144: ∀{ks:List Tr} {i:Nat} (h:i < ks.length) (x:Tr),cnts (ks.set i x)+cnt (kd ks i)=cnts ks+cnt x
 |t::ts,0,h,x=> by simp[kd,cnts];omega
 |t::ts,i+1,h,x=> by
  have:=j144 (ks:=ts) (i:=i) (by simpa using h) x;rw[j173,List.set_cons_succ,cnts,cnts];omega
theorem y155: ∀(p:List Int) (t u o:Tr),atT t p=some o->cnt (putA t p u)+cnt o=cnt t+cnt u
 | [],t,u,o,h=> by
  have e:t=o:=by cases t;simpa[atT] using h
  subst e;rw[q70];omega
 |i::r,.mk k n ks,u,o,h=> by
  rw[atT] at h
  split at h
  · rename_i hi
    have h1:=y155 r (kd ks i.toNat) u o h;have h2:=j144 (ks:=ks) (i:=i.toNat) (by omega) (putA (kd ks i.toNat) r u);rw[putA,cnt,cnt];omega
  · cases h
theorem q82{P:Program}(w:World){ops:Array Oper}{rest:List Oper}{o:Oper}{a:Act}{Q:Exit->Act->World->Prop}(hgd:o.guard=none)(s x:Operand)(t:TypeId)
 (ho:o.op= .call {callee:= .builtin .append,args:=#[s,x],argTypes:=#[t,t]})
 (base:Nat) (e:TypeId) (i:TypeInfo) (z:Value) (ht:P.underlying t=some (.slice e)) (hi:P.info? e=some i) (hz:i.zero=some z) (hsize:i.size=3) (hby:i.bytes=40) (hzs:z.cells.size=3)
 {v:Value} {b0 o0 cap:Nat} {ks:List Tr} (hs:a.eval s=v) (hown:w.ownsRow base e 3 v 0 []) (hbase:base<=w.heap.size) (hx:a.eval x= .slice (some ⟨b0,o0,none⟩) ks.length cap) {S:Nat->Prop} (hS: ∀b,S b->b < w.heap.size/\v.ownBlock≠some b) (hK:InL w S b0 o0 ks) (hn:ks.length<=1048576) (h0:0 < ks.length)
 (h: ∀(c' g:Nat) (cs:Array Value) (w':World),w'.heap[g]? =some (.cells cs e (0,0))->base<=g->ks.length*3<=cs.size->RowL w' S cs.toList ks->ks.length<=c'->c'<=maxLen->w.grownBy w' v.ownBlock->wpList P ops Q rest (a.put o.dst (.slice (some ⟨g,0,none⟩) ks.length c')) w'):wpList P ops Q (o::rest) a w:=by
 refine wpList_plain hgd fun K hK'=> ?_
 obtain⟨xs,n1,n2,n3,n4⟩:=hK.rowL;obtain⟨v',w',hr,r1,r2,r3⟩:=q16 (P:=P) w base t o.type e i z 3 40 ht hi hz hsize hby hzs (by decide) v 0 [] hown ⟨b0,o0,none⟩ ks.length cap xs n1 (fun j u hu=> by rw[Addr.add_lit];exact n2 j u hu) n3 (by unfold maxLen;omega) (by omega) hbase;rw[Nat.zero_add,List.nil_append] at r1;unfold Oper.wp execOp;simp only[ho,resolve,invoke,builtin,Sem.run_bind,Sem.run_pure,Result.andThen_ok,List.map_toArray,List.map_cons,List.map_nil,hs,hx,hr];rcases r1.2 with⟨-,h5⟩ |⟨g,c',cs,rfl,hb,hg,hnc,hcm,hcs,ht'⟩
 · omega
 · refine hK' _ _ (h c' g cs w' hg hb (by rw[hcs];exact Nat.mul_le_mul_right _ hnc) ?_ hnc hcm r2)
   have h6:=RowL.tail (cs.toList.drop (ks.length*3)) (n4.mono (fun _ h=> h) (fun b hb=> r2.block b (hS b hb).1 (fun he=>(hS b hb).2 he.symm)));rw[<-ht',List.take_append_drop] at h6;exact h6
theorem y157:(Tryz.prog.info? 25).map (fun i=>(i.zero,i.size,i.bytes))=some (some (.agg #[.int .i64 0,.int .i64 0,.slice none 0 0]),3,40):=by kernel_rfl
theorem j103(ks:List Tr)(w:World)(S:Nat->Prop)(hS: ∀b,S b->b < w.heap.size)(b o cap:Nat)(hb:S b)(hK:InL w S b o ks)(hn:ks.length<=1048576)(h0:0 < ks.length):Calls Tryz.prog 163 #[.slice (some ⟨b,o,none⟩) ks.length cap] w fun e w'=>
 ∃(c g:Nat) (cs:Array Value),e= .returned (.slice (some ⟨g,0,none⟩) ks.length c)/\w'.heap[g]? =some (.cells cs 25 (0,0))/\w.heap.size<=g/\ks.length*3<=cs.size/\RowL w' S cs.toList ks/\ks.length<=c/\c<=maxLen/\Ext w w':=by
 obtain⟨i0,hi,hz0,hz1,hz2⟩:=info_parts y157;have hx:=(xr w).alloc (.cells #[] 25);have hK2:InL (w.alloc (.cells #[] 25)) S b o ks:=InL.mono (fun _ h=> h) (fun x hx'=> hx.heap x (hS x hx')) hb hK;have hG:(w.alloc (.cells #[] 25)).ownsRow w.heap.size 25 3 (.slice (some ⟨w.heap.size,0,none⟩) 0 0) 0 []:=World.ownsRow_lit w #[] 0 (Nat.le_refl _) (Nat.zero_le _) rfl;have hnil: ∀W,(binOp .eql 23 (.slice (some ⟨b,o,none⟩) ks.length cap) (.slice none 0 0)).run Tryz.prog W= .ok (.bool false) W:=fun W=> Lib.run_eql_slice_nil W 23 _ (some ⟨b,o,none⟩) ks.length cap 0 0 Tryz.underlying23
 clear hK;go_enter Tryz.func163,Tryz.ntmps163;go_wp2_with (at_builtin;refine q82 _ rfl (.tmp 5) (.tmp 6) 23 rfl w.heap.size 25 i0 _ Tryz.underlying23 hi hz0 hz1 hz2 rfl (S:=S) (v:= .slice (some ⟨w.heap.size,0,none⟩) 0 0) rfl hG (by simp) rfl (fun y hy=>⟨by have h9:y < w.heap.size:=hS y hy;simp;omega,by have h9:y < w.heap.size:=hS y hy;simp[Value.ownBlock];omega⟩) hK2 hn h0 ?_)
 intro c g cs w' r1 r2 r3 r4 r5 r6 r7;have hE:Ext w w':=hx.grown r7 (by intro k hk;simp[Value.ownBlock] at hk;omega);go_wp2_with fail;go_ret;exact⟨c,g,cs,rfl,r1,r2,r3,r4,r5,r6,hE⟩
structure PFs (w:World) (A:Option Addr) (n cap:Nat) (p:List Int):Prop where
 hn:p.length=n
 hl:n<=cap
 hc:cap<=maxLen
 hP:Nums w A p
theorem PFs.ext{w w':World}{A:Option Addr}{n cap:Nat}{p:List Int}(h:PFs w A n cap p)(he:Ext w w'):PFs w' A n cap p:=⟨h.hn,h.hl,h.hc,h.hP.ext he⟩
theorem PFs.tail{w:World}{b o n cap:Nat}{i:Int}{r:List Int}(h:PFs w (some ⟨b,o,none⟩) n cap (i::r)):PFs w (if cap=1 then some ⟨b,o,none⟩ else some ⟨b,o+1,none⟩) (n - 1) (cap - 1) r:=by
 obtain⟨h1,h2,h3,h4⟩:=h;simp only[List.length_cons] at h1;refine⟨by omega,by omega,by omega, ?_⟩;by_cases hc:cap=1
 · exact .inl (List.eq_nil_of_length_eq_zero (by omega))
 · rw[if_neg hc]
   rcases h4 with h4|⟨b',o',he,hb,hcell⟩
   · cases h4
   · simp only[Option.some.injEq,Addr.mk.injEq,and_true] at he
     obtain⟨rfl,rfl⟩:=he;refine .inr ⟨b,o+1,rfl,hb,fun j hj=> ?_⟩;have:=hcell (j+1) (by simpa using hj)
     rwa [show o+(j+1)=o+1+j by omega] at this
def PutC(p:List Int):Prop:= ∀(t u:Tr) (d:Int),shape sigT t d=true->(atT t p).isSome=true-> ∀(w:World) (vt vu:Value) (S:Nat->Prop),(∀b,S b->b < w.heap.size)->InT w S t vt->InT w S u vu-> ∀(A:Option Addr) (n cap:Nat),PFs w A n cap p->n<=1000->cnt t<=1000000->
 Calls Tryz.prog 121 #[vt,.slice A n cap,vu] w fun e w'=> ∃x,e= .returned x/\InT w' (fun b=> S b\/w.heap.size<=b/\b < w'.heap.size) (putA t p u) x/\Ext w w'
theorem put_any: ∀p:List Int,PutC p:=fun p=> by
 induction p with
 |nil=>
  intro t u d hsh hat w vt vu S hS hT hU A n cap hp hn1 hcn;obtain⟨k,nn,ks⟩:=t;obtain⟨At,ct,rfl,hlt,hct,hKt⟩:=InT.mk_iff.1 hT;obtain⟨ku,nu,us⟩:=u;have hU0:=hU;obtain⟨Au,cu,rfl,hlu,hcu,hKu⟩:=InT.mk_iff.1 hU;have hn0:n=0:=hp.hn.symm;subst hn0;have hx0:=(((xr w).alloc (.cells #[.int .i64 k,.int .i64 nn,.slice At ks.length ct] 25)).alloc (.cells #[.int .i64 ku,.int .i64 nu,.slice Au us.length cu] 25)).alloc (.cells #[.int .i64 0,.int .i64 0,.slice none 0 0] 25);obtain⟨hb0,hb1,hb2,hs2⟩:=blk3 (xr (((w.alloc (.cells #[.int .i64 k,.int .i64 nn,.slice At ks.length ct] 25)).alloc (.cells #[.int .i64 ku,.int .i64 nu,.slice Au us.length cu] 25)).alloc (.cells #[.int .i64 0,.int .i64 0,.slice none 0 0] 25)));go_enter Tryz.func121,Tryz.ntmps121;go_wp2_with fail;rw[q70];refine bodyPost_ret (v:= .agg #[.int .i64 ku,.int .i64 nu,.slice Au us.length cu]) (by simp[results,Tryz.results121,go_sem]) rfl ⟨_,rfl, ?_, ?_⟩
  · exact InT.mono (fun b hb=> .inl hb) (fun b hb=>((((xr w).alloc _).alloc _).alloc _).heap b (hS b hb)) hU0
  · exact(((xr w).alloc _).alloc _).alloc _
 |cons i r ih=>
  intro t u d hsh hat w vt vu S hS hT hU A n cap hp hn1 hcn;obtain⟨k,nn,ks⟩:=t;obtain⟨At,ct,rfl,hlt,hct,hKt⟩:=InT.mk_iff.1 hT;obtain⟨ku,nu,us⟩:=u;have hU0:=hU;obtain⟨Au,cu,rfl,hlu,hcu,hKu⟩:=InT.mk_iff.1 hU;have hn0:n=r.length+1:=by have:=hp.hn;simpa using this.symm
  obtain⟨b1,o1,rfl,cp⟩:=hp.hP.get (xr w) (j:=0) (by simp);simp only[List.getElem_cons_zero,Nat.add_zero] at cp;have hi:0<=i/\i < ks.length:=by
   rw[atT] at hat
   split at hat
   · assumption
   · cases hat
  rw[atT,if_pos hi] at hat;obtain⟨m,rfl⟩:=Int.eq_ofNat_of_zero_le hi.1;have hm:m < ks.length:=by omega
  have hmt:((m:Int)).toNat=m:=by omega
  rw[hmt] at hat;have hput:putA (.mk k nn ks) ((m:Int)::r) (.mk ku nu us)= .mk k nn (ks.set m (putA (kd ks m) r (.mk ku nu us))):=by rw[putA,hmt]
  rw[hput];obtain⟨b,o,k2,n2,A2,c2,kids2,rfl,hSb,hkm,d0,d1,d2,hkl2,hkc2,hK2⟩:=InK.at_ hKt hm;have hkd:kd ks m= .mk k2 n2 kids2:=j71 hm hkm;obtain⟨-,-,-,hsk⟩:=j31 hsh;have hsk2:shape sigT (.mk k2 n2 kids2) (d - 1)=true:=by have:=hsk _ (List.getElem_mem hm);rwa [hkm] at this
  have hT2:InT w S (.mk k2 n2 kids2) (.agg #[.int .i64 k2,.int .i64 n2,.slice A2 kids2.length c2]):=InT.mk_iff.2 ⟨A2,c2,rfl,hkl2,hkc2,hK2⟩;have hcm:cnt (.mk k2 n2 kids2)<=cnts ks:=by have:=y14 (List.getElem_mem hm);rwa [hkm] at this
  simp only[cnt] at hcn;rw[hkd] at hat⊢;have hKL:InL w S b o ks:=by
   rcases hKt with h|⟨b',o',he,-,hh⟩
   · subst h;simp at hm
   · simp only[Option.some.injEq,Addr.mk.injEq,and_true] at he
     obtain⟨rfl,rfl⟩:=he;exact hh
  have hlc:=j16 ks;have hbw:=hS b hSb;have hb1w:b1 < w.heap.size:=World.block_lt_of_cell? _ _ cp;have hx0:=(((xr w).alloc (.cells #[.int .i64 k,.int .i64 nn,.slice (some ⟨b,o,none⟩) ks.length ct] 25)).alloc (.cells #[.int .i64 ku,.int .i64 nu,.slice Au us.length cu] 25)).alloc (.cells #[.int .i64 0,.int .i64 0,.slice none 0 0] 25);obtain⟨hb0,hbu,hbr,hs2⟩:=blk3 (xr (((w.alloc (.cells #[.int .i64 k,.int .i64 nn,.slice (some ⟨b,o,none⟩) ks.length ct] 25)).alloc (.cells #[.int .i64 ku,.int .i64 nu,.slice Au us.length cu] 25)).alloc (.cells #[.int .i64 0,.int .i64 0,.slice none 0 0] 25)));have hpt:=hp.tail;have hcpb:n<=cap:=hp.hl;have hcpm:cap<=maxLen:=hp.hc;unfold maxLen at hcpm;obtain⟨AD,hAD⟩: ∃AD,(if cap=1 then some (⟨b1,o1,none⟩:Addr) else some ⟨b1,o1+1,none⟩)=AD:=⟨_,rfl⟩;rw[hAD] at hpt;have HAD:=hdq hAD;have hnz:((n:Int)==0)=false:=beq_eq_false_iff_ne.2 (by omega);have hnz2:(n==0)=false:=beq_eq_false_iff_ne.2 (by omega);have hn2:(0:Int) <(n:Int):=by omega
  have hn3:(1:Int)<=(n:Int):=by omega
  have hn6:0 < n:=by omega
  have hn7:1<=n:=by omega
  have hn8:1<=cap:=by omega
  have hn4:(1:Int)<=(cap:Int):=by omega
  have hn5:(n:Int)<=(cap:Int):=by omega
  have hm2:(m:Int) <(ks.length:Int):=by omega
  have hm3:(0:Int)<=(m:Int):=by omega
  clear hAD hput hsk hkm hmt hi hn0 hT hU hkd;go_enter Tryz.func121,Tryz.ntmps121;go_wp2_with fail;generalize World.alloc (World.alloc (World.alloc w _) _) _=wS at hx0 hb0 hbu hbr hs2⊢;obtain⟨z0,z1,z2,-,-,-⟩:=own3 hb0;have HS3:=hdq (show∀w',Ext wS w'->w'.cell? ⟨w.heap.size,0,none⟩=some (.int .i64 k)/\w'.cell? ⟨w.heap.size,1,none⟩=some (.int .i64 nn)/\w'.cell? ⟨w.heap.size,2,none⟩=some (.slice (some ⟨b,o,none⟩) ks.length ct) from fun w' hw=>⟨hw.cell z0,hw.cell z1,hw.cell z2⟩);have X0:Ext wS wS.drew:=(xr wS).drew;have hSS: ∀y,S y->y < wS.heap.size:=fun y hy=> by have:=hS y hy;have:=hx0.size;omega
  have hKS:InL wS S b o ks:=InL.mono (fun _ h=> h) (fun y hy=> hx0.heap y (hS y hy)) hSb hKL;have hgoal: ∀V,Ext wS V->InL V S b o ks:=fun V hV=> InL.mono (fun _ h=> h) (fun y hy=> hV.heap y (hSS y hy)) hSb hKS
  have HKV:=hdq hgoal;clear hgoal z0 z1 z2
  go_region_held3 (fun w'=> w'.cell? ⟨w.heap.size,0,none⟩=some (.int .i64 k)/\w'.cell? ⟨w.heap.size,1,none⟩=some (.int .i64 nn)/\w'.cell? ⟨w.heap.size,2,none⟩=some (.slice (some ⟨b,o,none⟩) ks.length ct))
   (first|exact HS3.out _ (((hxd.setCell (p:=⟨wS.heap.size,0,none⟩) (Nat.le_refl _) _).setCell (p:=⟨wS.heap.size,1,none⟩) (Nat.le_refl _) _).setCell (p:=⟨wS.heap.size,2,none⟩) (Nat.le_refl _) _) |exact HS3.out _ (hxd.alloc _) |exact HS3.out _ hxd|exact HS3.out _ X0|exact HS3.out _ (X0.alloc _) |exact HS3.out _ ((xr wS).alloc _).drew)
   (first|(go_at_call 163;refine(j103 ks _ S (fun y hy=> Nat.lt_of_lt_of_le (hSS y hy) (Ext.size (by first|exact X0|exact X0.alloc _|exact((xr wS).alloc _).drew))) b o ct hSb (HKV.out _ (by first|exact X0|exact X0.alloc _|exact((xr wS).alloc _).drew)) (by omega) (by omega)).mono ?_;rintro e wd ⟨c,g,cs,rfl,hrow,hgl,hcs,hRl,hc1,hc2',ed⟩;have hxd:Ext wS wd:=(by first|exact X0.trans ed|exact(X0.alloc _).trans ed|exact(((xr wS).alloc _).drew).trans ed);(first|(have qb:wd.heap[wS.heap.size]? =some (.cells #[.int .i64 0,.int .i64 0,.slice none 0 0] 25 (0,0)):=ed.blk (heap_alloc_new wS.drew (.cells #[.int .i64 0,.int .i64 0,.slice none 0 0] 25));have hgb:wS.heap.size < g:=(by simp at hgl;omega);obtain⟨sa,sb,sc,fa,fb,fc⟩:=own3 qb) |(have qb:wd.heap[wS.heap.size]? =some (.cells #[.int .i64 0,.int .i64 0,.slice none 0 0] 25 (0,0)):=ed.blk (heap_alloc_new wS (.cells #[.int .i64 0,.int .i64 0,.slice none 0 0] 25));have hgb:wS.heap.size < g:=(by simp at hgl;omega);obtain⟨sa,sb,sc,fa,fb,fc⟩:=own3 qb) |(have qb:=trivial;have hgb:=trivial))))
  all_goals have hws:w.heap.size+3<=wS.heap.size:=by omega
  all_goals have hgS:wS.heap.size<=g:=by have h9:=hgl;simp at h9;omega
  all_goals(first
   |(have en:Ext wS (wd.alloc (.cells #[.int .i64 k,.int .i64 nn,.slice (some ⟨g,0,none⟩) ks.length c] 25)):=hxd.alloc _;have bn:=heap_alloc_new wd (.cells #[.int .i64 k,.int .i64 nn,.slice (some ⟨g,0,none⟩) ks.length c] 25);have rn:=((xr wd).alloc (.cells #[.int .i64 k,.int .i64 nn,.slice (some ⟨g,0,none⟩) ks.length c] 25)).blk hrow;have Rn:RowL (wd.alloc (.cells #[.int .i64 k,.int .i64 nn,.slice (some ⟨g,0,none⟩) ks.length c] 25)) S cs.toList ks:=hRl.mono (fun _ h=> h) (fun y hy=> Below.heap_alloc wd _ y (by have:=hSS y hy;have:=hxd.size;omega));have gne:wd.heap.size≠g:=(by have:=q10 hrow;omega);have gw:wS.heap.size<=wd.heap.size:=hxd.size;obtain⟨w7,hw7⟩: ∃x,x=wd.alloc (.cells #[.int .i64 k,.int .i64 nn,.slice (some ⟨g,0,none⟩) ks.length c] 25):=⟨_,rfl⟩;rw[<-hw7];rw[<-hw7] at en bn rn Rn;clear hw7;obtain⟨g7,hg7⟩: ∃x,x=wd.heap.size:=⟨_,rfl⟩;rw[<-hg7] at bn gne gw⊢;clear hg7)
   |(have en:Ext wS (((wd.setCell ⟨wS.heap.size,0,none⟩ (.int .i64 k)).setCell ⟨wS.heap.size,1,none⟩ (.int .i64 nn)).setCell ⟨wS.heap.size,2,none⟩ (.slice (some ⟨g,0,none⟩) ks.length c)):=((hxd.setCell (p:=⟨wS.heap.size,0,none⟩) (Nat.le_refl _) _).setCell (p:=⟨wS.heap.size,1,none⟩) (Nat.le_refl _) _).setCell (p:=⟨wS.heap.size,2,none⟩) (Nat.le_refl _) _;have bn:=q11 (q11 (q11 qb 0 (.int .i64 k)) 1 (.int .i64 nn)) 2 (.slice (some ⟨g,0,none⟩) ks.length c);have rn:=j12 (j12 (j12 hrow (p:=⟨wS.heap.size,0,none⟩) (by show g≠wS.heap.size;omega) (.int .i64 k)) (p:=⟨wS.heap.size,1,none⟩) (by show g≠wS.heap.size;omega) (.int .i64 nn)) (p:=⟨wS.heap.size,2,none⟩) (by show g≠wS.heap.size;omega) (.slice (some ⟨g,0,none⟩) ks.length c);have Rn:RowL (((wd.setCell ⟨wS.heap.size,0,none⟩ (.int .i64 k)).setCell ⟨wS.heap.size,1,none⟩ (.int .i64 nn)).setCell ⟨wS.heap.size,2,none⟩ (.slice (some ⟨g,0,none⟩) ks.length c)) S cs.toList ks:=hRl.mono (fun _ h=> h) (fun y hy=> by have h8:=hSS y hy;rw[Below.heap_setCell _ _ _ _ (by show y≠wS.heap.size;omega),Below.heap_setCell _ _ _ _ (by show y≠wS.heap.size;omega),Below.heap_setCell _ _ _ _ (by show y≠wS.heap.size;omega)]);have gne:wS.heap.size≠g:=(by omega);obtain⟨w7,hw7⟩: ∃x,x=(((wd.setCell ⟨wS.heap.size,0,none⟩ (.int .i64 k)).setCell ⟨wS.heap.size,1,none⟩ (.int .i64 nn)).setCell ⟨wS.heap.size,2,none⟩ (.slice (some ⟨g,0,none⟩) ks.length c)):=⟨_,rfl⟩;rw[<-hw7];rw[<-hw7] at en bn rn Rn;clear hw7;obtain⟨g7,hg7⟩: ∃x,x=wS.heap.size:=⟨_,rfl⟩;have gw:wS.heap.size<=g7:=(by rw[hg7];exact Nat.le_refl _);rw[<-hg7] at bn gne⊢;clear hg7))
  all_goals(
   try clear sa sb sc fa fb fc
   clear qb hgb hxd ed hrow hRl hgl X0 HS3;have hE7:Ext w w7:=hx0.trans en;obtain⟨y0,y1,y2,-,-,-⟩:=own3 bn;obtain⟨-,-,t2,-,-,-⟩:=own3 (en.blk hb0);obtain⟨v0,v1,v2,-,-,-⟩:=own3 (en.blk hbu);have p0:=hE7.cell cp;have q0:=hE7.cell d0;have q1:=hE7.cell d1;have q2:=hE7.cell d2;have hg7:g7 < w7.heap.size:=q10 bn;have hgr:g < w7.heap.size:=q10 rn;have HS4:=hdq (show∀w':World,(∀y,y < w7.heap.size->y≠g->w'.heap[y]? =w7.heap[y]?)->w'.cell? ⟨g7,2,none⟩=some (.slice (some ⟨g,0,none⟩) ks.length c)/\w'.cell? ⟨w.heap.size,2,none⟩=some (.slice (some ⟨b,o,none⟩) ks.length ct)/\w'.cell? ⟨b1,o1,none⟩=some (.int .i64 m)/\w'.cell? ⟨b,o+m*3,none⟩=some (.int .i64 k2)/\w'.cell? ⟨b,o+m*3+1,none⟩=some (.int .i64 n2)/\w'.cell? ⟨b,o+m*3+2,none⟩=some (.slice A2 kids2.length c2)/\w'.cell? ⟨w.heap.size+1,0,none⟩=some (.int .i64 ku)/\w'.cell? ⟨w.heap.size+1,1,none⟩=some (.int .i64 nu)/\w'.cell? ⟨w.heap.size+1,2,none⟩=some (.slice Au us.length cu) from fun w' hw=> by
    have f: ∀(y j:Nat) (x:Value),y < w7.heap.size->y≠g->w7.cell? ⟨y,j,none⟩=some x->w'.cell? ⟨y,j,none⟩=some x:=fun y j x h1 h2 h3=>(World.cell?_of_block (a:=⟨y,j,none⟩) (hw y h1 h2)).trans h3
    exact⟨f _ _ _ hg7 gne y2,f _ _ _ (by omega) (by omega) t2,f _ _ _ (by omega) (by omega) p0,f _ _ _ (by omega) (by omega) q0,f _ _ _ (by omega) (by omega) q1,f _ _ _ (by omega) (by omega) q2,f _ _ _ (by omega) (by omega) v0,f _ _ _ (by omega) (by omega) v1,f _ _ _ (by omega) (by omega) v2⟩)
   have X7:Ext w7 w7.drew:=(xr w7).drew;have hS7: ∀y,S y->y < w7.heap.size:=fun y hy=> by have:=hS y hy;omega
   go_wp2_with fail;clear y0 y1 y2 t2 v0 v1 v2 p0 q0 q1 q2
   go_region_held3 (fun w'=> w'.cell? ⟨g7,2,none⟩=some (.slice (some ⟨g,0,none⟩) ks.length c)/\w'.cell? ⟨w.heap.size,2,none⟩=some (.slice (some ⟨b,o,none⟩) ks.length ct)/\w'.cell? ⟨b1,o1,none⟩=some (.int .i64 m)/\w'.cell? ⟨b,o+m*3,none⟩=some (.int .i64 k2)/\w'.cell? ⟨b,o+m*3+1,none⟩=some (.int .i64 n2)/\w'.cell? ⟨b,o+m*3+2,none⟩=some (.slice A2 kids2.length c2)/\w'.cell? ⟨w.heap.size+1,0,none⟩=some (.int .i64 ku)/\w'.cell? ⟨w.heap.size+1,1,none⟩=some (.int .i64 nu)/\w'.cell? ⟨w.heap.size+1,2,none⟩=some (.slice Au us.length cu))
    (first|exact HS4.out _ (fun y h1 h2=> by rw[Below.heap_setCell _ _ _ _ h2,Below.heap_setCell _ _ _ _ h2,Below.heap_setCell _ _ _ _ h2];exact hx8.heap y h1) |exact HS4.out _ (fun y h1 _=> hx8.heap y h1) |exact HS4.out _ (fun y h1 _=> X7.heap y h1))
    (first|(go_at_call 121;(try rw[HAD.out]);refine(ih _ _ (d - 1) hsk2 hat w7.drew _ _ S (fun y hy=> hS7 y hy) (InT.mono (fun _ h=> h) (fun y hy=>(hE7.trans X7).heap y (hS y hy)) hT2) (InT.mono (fun _ h=> h) (fun y hy=>(hE7.trans X7).heap y (hS y hy)) hU0) _ _ _ (hpt.ext (hE7.trans X7)) (by omega) (by omega)).mono ?_;rintro e w8 ⟨x,rfl,hX8,e8⟩;have hx8:Ext w7 w8:=X7.trans e8;have hX9:=hX8;obtain⟨x1,x2,x3,x4,x5,rfl⟩:=InT.three hX9;clear hX9;obtain⟨u0,u1,u2,r0,r1,r2,f0,f1,f2⟩:=cells3 (i:=m*3) (hx8.blk rn) (by omega)))
   clear u0 u1 u2 r0 r1 r2 f0 f1 f2 HS4 X7 e8 HAD;have rn9:=q11 (q11 (q11 (hx8.blk rn) (m*3) (.int .i64 x1)) (m*3+1) (.int .i64 x2)) (m*3+2) (.slice x3 x4 x5);have keep: ∀y,y≠g->(((w8.setCell ⟨g,m*3,none⟩ (.int .i64 x1)).setCell ⟨g,m*3+1,none⟩ (.int .i64 x2)).setCell ⟨g,m*3+2,none⟩ (.slice x3 x4 x5)).heap[y]? =w8.heap[y]? :=fun y hy=> by rw[Below.heap_setCell _ _ _ _ hy,Below.heap_setCell _ _ _ _ hy,Below.heap_setCell _ _ _ _ hy]
   have hsz9:(((w8.setCell ⟨g,m*3,none⟩ (.int .i64 x1)).setCell ⟨g,m*3+1,none⟩ (.int .i64 x2)).setCell ⟨g,m*3+2,none⟩ (.slice x3 x4 x5)).heap.size=w8.heap.size:=by simp
   have hE9:Ext w (((w8.setCell ⟨g,m*3,none⟩ (.int .i64 x1)).setCell ⟨g,m*3+1,none⟩ (.int .i64 x2)).setCell ⟨g,m*3+2,none⟩ (.slice x3 x4 x5)):=(((hE7.trans hx8).setCell (p:=⟨g,m*3,none⟩) (by show w.heap.size<=g;omega) _).setCell (p:=⟨g,m*3+1,none⟩) (by show w.heap.size<=g;omega) _).setCell (p:=⟨g,m*3+2,none⟩) (by show w.heap.size<=g;omega) _;obtain⟨w9,hw9⟩: ∃x,x=(((w8.setCell ⟨g,m*3,none⟩ (.int .i64 x1)).setCell ⟨g,m*3+1,none⟩ (.int .i64 x2)).setCell ⟨g,m*3+2,none⟩ (.slice x3 x4 x5)):=⟨_,rfl⟩;rw[<-hw9] at rn9 keep hsz9 hE9⊢;clear hw9;have hs78:=hx8.size;have bn9:=(keep g7 gne).trans (hx8.blk bn);have br9:=(keep (w.heap.size+1+1) (by omega)).trans (hx8.blk (en.blk hbr));have Rn9:RowL w9 (fun y=> S y\/w.heap.size+3<=y/\y < w9.heap.size) cs.toList ks:=Rn.mono (fun y hy=> .inl hy) (fun y hy=>(keep y (by have:=hS y hy;omega)).trans (hx8.heap y (hS7 y hy)));have hX9:InT w9 (fun y=> S y\/w.heap.size+3<=y/\y < w9.heap.size) (putA (.mk k2 n2 kids2) r (.mk ku nu us)) (.agg #[.int .i64 x1,.int .i64 x2,.slice x3 x4 x5]):=InT.mono (fun y hy=> by
    rcases hy with hy|hy
    · exact .inl hy
    · have h9:w7.heap.size<=y:=hy.1
      have h8:=hy.2;exact .inr ⟨by omega,by omega⟩) (fun y hy=> keep y (by
    rcases hy with hy|hy
    · have:=hS y hy;omega
    · have h9:w7.heap.size<=y:=hy.1
      omega)) hX8
   have hR9:=RowL.set hX9 m Rn9;have hK9:=RowL.inL rn9 (pre:= []) hR9 (by simp[Array.toList_setIfInBounds]);have HK9:=hdq hK9;have HKP:=hdq hE9;obtain⟨y0,y1,y2,-,-,-⟩:=own3 bn9;obtain⟨s0,s1,s2,f0,f1,f2⟩:=own3 br9;have hwg:w.heap.size+1+1 < w9.heap.size:=q10 br9;have hgg:g < w9.heap.size:=q10 rn9;clear keep hE9 hK9 hR9 hX9 Rn9 Rn rn rn9 bn bn9 br9 hX8 hb0 hbu hbr HKV;go_wp2_with fail;refine bodyPost_ret (v:= .agg #[.int .i64 k,.int .i64 nn,.slice (some ⟨g,0,none⟩) ks.length c]) (by simp[results,Tryz.results121,go_sem,s0,s1,s2]) rfl ⟨_,rfl, ?_, ?_⟩
   · refine InT.mk_iff.2 ⟨some ⟨g,0,none⟩,c,by rw[List.length_set],by rw[List.length_set];exact hc1,hc2',.inr ⟨g,0,rfl,.inr ⟨by omega,by simpa using hgg⟩, ?_⟩⟩
     refine InL.mono (S:=fun y=> S y\/w.heap.size+3<=y/\y < w9.heap.size) (fun y hy=> ?_) (fun y hy=> ?_) (.inr ⟨by omega,hgg⟩) HK9.out
     · rcases hy with hy|hy
       · exact .inl hy
       · exact .inr ⟨by omega,by simpa using hy.2⟩
     · have hne:y≠w.heap.size+1+1:=by
        rcases hy with hy|hy
        · have:=hS y hy;omega
        · omega
       rw[Below.heap_setCell _ _ _ _ hne,Below.heap_setCell _ _ _ _ hne,Below.heap_setCell _ _ _ _ hne]
   · exact((HKP.out.setCell (by show w.heap.size<=w.heap.size+1+1;omega) _).setCell (by show w.heap.size<=w.heap.size+1+1;omega) _).setCell (by show w.heap.size<=w.heap.size+1+1;omega) _)
end Go.Proofs.YtdkamgafpphdjaaGreat
namespace Go.Proofs.YtdkamgafpphdjaaGreat
open Go.RowKit
set_option linter.unusedVariables false
theorem Only.blk{L:List Nat}{a w:World}{g:Nat}{o:Obj}(h:Only L a w)(hb:a.heap[g]? =some o)(hn: ¬g∈L):w.heap[g]? =some o:=(h.block g (q10 hb) hn).trans hb
theorem j39(n:Int)(w:World):Calls Tryz.prog 92 #[.int .i64 n] w fun e w'=> e= .returned (.agg #[.int .i64 1,.int .i64 n,.slice none 0 0])/\Ext w w':=by
 go_enter Tryz.func92,Tryz.ntmps92;go_wp2_with fail;exact bodyPost_ret (v:= .agg #[.int .i64 1,.int .i64 n,.slice none 0 0]) (by simp[results,Tryz.results92,go_sem]) rfl ⟨rfl,(xr w).alloc _⟩
theorem j91(k n:Int)(ks:List Tr)(A:Option Addr)(cap:Nat)(w:World)(hin:Lies w (.mk k n ks) (.agg #[.int .i64 k,.int .i64 n,.slice A ks.length cap])):
 Calls Tryz.prog 120 #[.agg #[.int .i64 k,.int .i64 n,.slice A ks.length cap]] w fun e w'=>(if valid sigT (.mk k n ks)=true then e= .returned (.tuple #[.agg #[.int .i64 k,.int .i64 n,.slice A ks.length cap],.bool true]) else e= .returned (.tuple #[.agg #[.int .i64 0,.int .i64 0,.slice none 0 0],.bool false]))/\Ext w w':=by
 have HV:=hdq (fun W (hW:Ext w W)=> q17 _ W _ (hin.ext hW));generalize valid sigT (.mk k n ks)=s at HV⊢;have hE:=((xr w).alloc (.cells #[.int .i64 k,.int .i64 n,.slice A ks.length cap] 25)).alloc (.cells #[.int .i64 0,.int .i64 0,.slice none 0 0] 25);obtain⟨hbT,hbR,hs1⟩:=blk2 (xr ((w.alloc (.cells #[.int .i64 k,.int .i64 n,.slice A ks.length cap] 25)).alloc (.cells #[.int .i64 0,.int .i64 0,.slice none 0 0] 25)));cases s with
 |true=>
  simp only[if_true];go_enter Tryz.func120,Tryz.ntmps120;go_wp2_with fail;refine(HV.out _ hE).mono ?_;rintro e w1 ⟨rfl,e1⟩;obtain⟨x0,x1,x2,-,-,-⟩:=own3 (e1.blk hbT);obtain⟨s0,s1,s2,f0,f1,f2⟩:=own3 (e1.blk hbR);go_wp2_with fail;exact bodyPost_ret (v:= .tuple #[.agg #[.int .i64 k,.int .i64 n,.slice A ks.length cap],.bool true]) (by simp[results,Tryz.results120,go_sem,s0,s1,s2]) rfl ⟨rfl,((((hE.trans e1).setCell (by simp) _).setCell (by simp) _).setCell (by simp) _)⟩
 |false=>
  simp only[Bool.false_eq_true,if_false];go_enter Tryz.func120,Tryz.ntmps120;go_wp2_with fail;refine(HV.out _ hE).mono ?_;rintro e w1 ⟨rfl,e1⟩;obtain⟨s0,s1,s2,f0,f1,f2⟩:=own3 (e1.blk hbR);go_wp2_with fail;exact bodyPost_ret (v:= .tuple #[.agg #[.int .i64 0,.int .i64 0,.slice none 0 0],.bool false]) (by simp[results,Tryz.results120,go_sem,s0,s1,s2]) rfl ⟨rfl,((((hE.trans e1).setCell (by simp) _).setCell (by simp) _).setCell (by simp) _)⟩
def ShI(p1 p2 p3 B:Nat)(c y:Int)(w:World)(s:Bool):Prop:=(p1 < B/\p2 < B/\p3 < B)/\w.heap[p1]? =some (.cells #[.int .i64 c] 3 (0,0))/\w.heap[p2]? =some (.cells #[.int .i64 y] 3 (0,0))/\w.heap[p3]? =some (.cells #[.bool s] 4 (0,0))
theorem shift1(a:World)(p1 p2 p3 B:Nat)(c y:Int)(h13:p1≠p3)(h23:p2≠p3)(hy0:0<=y)(hy1:y<=1000)(hc0:0<=c)(hc1:c<=1000):Chg_sh a p1 p2 p3 [p3] (ShI p1 p2 p3 B c y) (gsh y c) (hsh y c):=by
 intro w s n b ha hI hn0 hn1 hb0 hb1;obtain⟨hpB,i1,i2,i3⟩:=hI;have c1:=y10 i1 0;have c2:=y10 i2 0;have c3:=y10 i3 0;have f3:=q12 i3 0;have l1:=q10 i1;have l2:=q10 i2;have l3:=q10 i3;have H1:=hdq i1;have H2:=hdq i2;have H3:=hdq i3;clear i1 i2 i3;have HV:=hdq (fun m W=> j39 m W);by_cases h:c<=n - b
 · have d1:decide (c<=n - b)=true:=decide_eq_true h
   obtain⟨b2,d2⟩: ∃x,decide (c<=n+y - b)=x:=⟨_,rfl⟩;obtain⟨b3,d3⟩: ∃x,decide (n+y<=20)=x:=⟨_,rfl⟩;have e1:gsh y c n b= .mk 1 (n+y) []:=by unfold gsh;rw[if_pos h]
   have e2:hsh y c n b=(b2 && b3):=by unfold hsh;rw[if_pos h,d2,d3]
   rw[e1,e2];clear e1 e2 h;cases s <;> cases b2 <;> cases b3
   all_goals go_enter Tryz.func188,Tryz.ntmps188
   all_goals go_wp2_with fail
   all_goals(
    refine(HV.out _ _).mono ?_;rintro e w1 ⟨rfl,e1⟩;have hb:=e1.newBlk;simp only[World.size_setCell] at hb;obtain⟨s0,s1,s2,f0,f1,f2⟩:=own3 hb;have o1:=fun u=>(((Only.refl [p3] w).setCell (p:=⟨p3,0,none⟩) (by simp) u).alloc (.cells #[.int .i64 0,.int .i64 0,.slice none 0 0] 25))
    have o2:=(o1 _).trans (oE e1);have q3:=fun u=> q11 H3.out 0 u
    have q4:=e1.blk ((Below.heap_alloc _ _ _ (by simp;omega)).trans (q3 _));clear hb;go_wp2_with fail;refine bodyPost_ret (v:= .agg #[.int .i64 1,.int .i64 (n+y),.slice none 0 0]) (by simp[results,Tryz.results188,go_sem,s0,s1,s2]) rfl ⟨_,rfl,Made.leaf _ _ _ _ _, ?_,hpB, ?_, ?_, ?_⟩
    · exact(((o2.setNew (by simp) _).setNew (by simp) _).setNew (by simp) _)
    · exact(((o2.setNew (by simp) _).setNew (by simp) _).setNew (by simp) _).blk H1.out (by simpa using h13)
    · exact(((o2.setNew (by simp) _).setNew (by simp) _).setNew (by simp) _).blk H2.out (by simpa using h23)
    · rw[Below.heap_setCell _ _ _ _ (by show p3≠w.heap.size;omega),Below.heap_setCell _ _ _ _ (by show p3≠w.heap.size;omega),Below.heap_setCell _ _ _ _ (by show p3≠w.heap.size;omega),q4]
      rfl)
 · have d1:decide (c<=n - b)=false:=decide_eq_false h
   have e1:gsh y c n b= .mk 1 n []:=by unfold gsh;rw[if_neg h]
   have e2:hsh y c n b=true:=by unfold hsh;rw[if_neg h]
   rw[e1,e2,Bool.and_true];clear e1 e2 h;go_enter Tryz.func188,Tryz.ntmps188;go_wp2_with fail;refine(HV.out _ _).mono ?_;rintro e w1 ⟨rfl,e1⟩;have hb:=e1.newBlk;obtain⟨s0,s1,s2,f0,f1,f2⟩:=own3 hb;have o2:=((Only.refl [p3] w).alloc (.cells #[.int .i64 0,.int .i64 0,.slice none 0 0] 25)).trans (oE e1);have q4:=(Ext.blk e1.pre H3.out);clear hb;go_wp2_with fail;refine bodyPost_ret (v:= .agg #[.int .i64 1,.int .i64 n,.slice none 0 0]) (by simp[results,Tryz.results188,go_sem,s0,s1,s2]) rfl ⟨_,rfl,Made.leaf _ _ _ _ _, ?_,hpB, ?_, ?_, ?_⟩
   · exact(((o2.setNew (by simp) _).setNew (by simp) _).setNew (by simp) _)
   · exact(((o2.setNew (by simp) _).setNew (by simp) _).setNew (by simp) _).blk H1.out (by simpa using h13)
   · exact(((o2.setNew (by simp) _).setNew (by simp) _).setNew (by simp) _).blk H2.out (by simpa using h23)
   · rw[Below.heap_setCell _ _ _ _ (by show p3≠w.heap.size;omega),Below.heap_setCell _ _ _ _ (by show p3≠w.heap.size;omega),Below.heap_setCell _ _ _ _ (by show p3≠w.heap.size;omega),q4]
def okT(t:Tr):Tr:=if valid sigT t=true then t else y13
theorem q71(t:Tr)(y c:Int)(w:World)(v:Value)(hin:Lies w t v)(hv:valid sigT t=true)(hy0:0<=y)(hy1:y<=1000)(hc0:0<=c)(hc1:c<=1000):
 Calls Tryz.prog 145 #[v,.int .i64 y,.int .i64 c] w fun e w'=> ∃u,e= .returned (.tuple #[u,.bool (valid sigT (shfT y t c))])/\Made w w' 25 (okT (shfT y t c)) u/\Ext w w':=by
 obtain⟨hs,hcn⟩:=j11 hv;obtain⟨hw1,hw2⟩:=j186 (c:=c) hy0 hv;have hCH:=fun W (hW:Ext w W) p1 p2 p3 (hp:w.heap.size<=p3) (h13:p1≠p3) (h23:p2≠p3) (h1:W.heap[p1]? =some (.cells #[.int .i64 c] 3 (0,0))) (h2:W.heap[p2]? =some (.cells #[.int .i64 y] 3 (0,0))) (h3:W.heap[p3]? =some (.cells #[.bool true] 4 (0,0)))=>
  q104 t w W v 0 30 p1 p2 p3 [p3] W.heap.size (ShI p1 p2 p3 W.heap.size c y) (gsh y c) (hsh y c) true hs hin hW (fun x hx=> by rw[List.mem_singleton.1 hx];exact⟨hp,q10 h3⟩) (by omega) (by omega)
   (shift1 w p1 p2 p3 _ c y h13 h23 hy0 hy1 hc0 hc1) (fun w1 w2 s h he=>⟨h.1,he.blk h.2.1,he.blk h.2.2.1,he.blk h.2.2.2⟩) (Nat.le_refl _) (fun w1 w2 s h he hl=>⟨h.1,(he p1 h.1.1).trans h.2.1,(he p2 h.1.2.1).trans h.2.2.1,(he p3 h.1.2.2).trans h.2.2.2⟩) ⟨⟨q10 h1,q10 h2,q10 h3⟩,h1,h2,h3⟩
 rw[hw2] at hw1;simp only[hw2,Bool.true_and] at hCH;have HCH:=hdq hCH;clear hCH hw2 hs;obtain⟨vb,hvb⟩: ∃vb,vb=valid sigT (shfT y t c):=⟨_,rfl⟩;obtain⟨rt,hrt⟩: ∃rt,rt=okT (shfT y t c):=⟨_,rfl⟩;rw[<-hvb,<-hrt];generalize shfT y t c=r at hw1 HCH hvb hrt;generalize allT (hsh y c) t 0=f at hw1 HCH;obtain⟨k,n,ks⟩:=t;obtain⟨A,cap,rfl,hl,hc,hK⟩:=Lies.mk_iff.1 hin;have hE:=((((xr w).alloc (.cells #[.int .i64 k,.int .i64 n,.slice A ks.length cap] 25)).alloc (.cells #[.int .i64 y] 3)).alloc (.cells #[.int .i64 c] 3)).alloc (.cells #[.int .i64 0,.int .i64 0,.slice none 0 0] 25);have hbb:=blk4 ((xr ((((w.alloc (.cells #[.int .i64 k,.int .i64 n,.slice A ks.length cap] 25)).alloc (.cells #[.int .i64 y] 3)).alloc (.cells #[.int .i64 c] 3)).alloc (.cells #[.int .i64 0,.int .i64 0,.slice none 0 0] 25))).alloc (.cells #[.bool true] 4));have hb5:=heap_alloc_new ((((w.alloc (.cells #[.int .i64 k,.int .i64 n,.slice A ks.length cap] 25)).alloc (.cells #[.int .i64 y] 3)).alloc (.cells #[.int .i64 c] 3)).alloc (.cells #[.int .i64 0,.int .i64 0,.slice none 0 0] 25)) (.cells #[.bool true] 4);have hE5:=hE.alloc (.cells #[.bool true] 4);have hsz:(((((w.alloc (.cells #[.int .i64 k,.int .i64 n,.slice A ks.length cap] 25)).alloc (.cells #[.int .i64 y] 3)).alloc (.cells #[.int .i64 c] 3)).alloc (.cells #[.int .i64 0,.int .i64 0,.slice none 0 0] 25)).alloc (.cells #[.bool true] 4)).heap.size=w.heap.size+1+1+1+1+1:=by simp
 obtain⟨hb1,hb2,hb3,hb4,-⟩:=hbb;simp only[World.size_alloc] at hb5;go_enter Tryz.func145,Tryz.ntmps145;go_wp2_with fail;generalize World.alloc _ _=wa at hE5 hb1 hb2 hb3 hb4 hb5 hsz;clear hE;refine(HCH.out wa hE5 _ _ _ (by omega) (by omega) (by omega) hb3 hb2 hb5).mono ?_;rintro e w1 ⟨u,rfl,hM,ho,hI⟩;obtain⟨k2,n2,ks2⟩:=r;obtain⟨A2,c2,rfl,hl2,hc2,hMK2⟩:=Made.mk_iff.1 hM;have hb4':=ho.blk hb4 (by simp);have i3:=hI.2.2.2;have hc5:=y10 i3 0;have hlt5:=q10 i3;have hlt4:=q10 hb4';have hso:=ho.size;have hEw:Ext w w1:=ho.ext hE5 (fun x hx=> by rw[List.mem_singleton.1 hx];omega);obtain⟨s0,s1,s2,f0,f1,f2⟩:=own3 hb4';clear HCH hb1 hb2 hb3 hb4 hb5 hI i3;have hx:=(xr w1).alloc (.cells #[.int .i64 k2,.int .i64 n2,.slice A2 ks2.length c2] 25);cases f with
 |false=>
  rw[Bool.false_and] at hw1;have h1:vb=false:=by rw[hvb,<-hw1]
  have h2:rt=y13:=by rw[hrt];unfold okT;rw[<-hw1];rfl
  have H1:=hdq h1;have H2:=hdq h2;clear hw1 hvb hrt h1 h2;go_wp2_with fail;refine bodyPost_ret (v:= .tuple #[.agg #[.int .i64 0,.int .i64 0,.slice none 0 0],.bool false]) (by simp[results,Tryz.results145,go_sem,s0,s1,s2,hlt4]) rfl ⟨.agg #[.int .i64 0,.int .i64 0,.slice none 0 0],by rw[H1.out],by rw[H2.out];exact Made.leaf _ _ _ _ _, ?_⟩;exact(((hEw.setCell (by simp;omega) _).setCell (by simp;omega) _).setCell (by simp;omega) _).alloc _
 |true=>
  rw[Bool.true_and] at hw1;have HV:=hdq (fun W (hW:Ext w1 W)=> j91 k2 n2 ks2 A2 c2 W (hM.lies.ext hW));generalize hok:valid sigT (.mk k2 n2 ks2)=b at HV;have hO:rt=if b=true then .mk k2 n2 ks2 else y13:=by rw[hrt];unfold okT;rw[hok]
  rw[hok] at hvb;have H1:=hdq hvb;have H2:=hdq hO;clear hO hw1 hok hrt hvb;go_wp2_with fail;refine(HV.out _ hx).mono ?_;cases b with
  |true=>
   simp only[if_true];rintro e w2 ⟨rfl,e2⟩;obtain⟨q0,q1,q2,g0,g1,g2⟩:=own3 ((hx.trans e2).blk hb4');go_wp2_with fail;refine bodyPost_ret (v:= .tuple #[.agg #[.int .i64 k2,.int .i64 n2,.slice A2 ks2.length c2],.bool true]) (by simp[results,Tryz.results145,go_sem,q0,q1,q2]) rfl ⟨.agg #[.int .i64 k2,.int .i64 n2,.slice A2 ks2.length c2],by rw[H1.out], ?_, ?_⟩
   · rw[H2.out]
     simp only[if_true];exact Made.since (((hM.ext (hx.trans e2)).after ((((q23.refl _ _).setCell (by simp;omega) _).setCell (by simp;omega) _).setCell (by simp;omega) _))) (by omega)
   · exact(((((hEw.trans hx).trans e2).setCell (by simp;omega) _).setCell (by simp;omega) _).setCell (by simp;omega) _)
  |false=>
   simp only[Bool.false_eq_true,if_false];rintro e w2 ⟨rfl,e2⟩;obtain⟨q0,q1,q2,g0,g1,g2⟩:=own3 ((hx.trans e2).blk hb4');go_wp2_with fail;refine bodyPost_ret (v:= .tuple #[.agg #[.int .i64 0,.int .i64 0,.slice none 0 0],.bool false]) (by simp[results,Tryz.results145,go_sem,q0,q1,q2]) rfl ⟨.agg #[.int .i64 0,.int .i64 0,.slice none 0 0],by rw[H1.out],by rw[H2.out];exact Made.leaf _ _ _ _ _, ?_⟩;exact(((((hEw.trans hx).trans e2).setCell (by simp;omega) _).setCell (by simp;omega) _).setCell (by simp;omega) _)
end Go.Proofs.YtdkamgafpphdjaaGreat
