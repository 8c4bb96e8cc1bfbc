/-
  Lemmas towards the law, 17: Put, Shf, Mutate.
-/
import Derived.Test.YtbnkbepgmenblaaGreatTAP
set_option linter.unusedVariables false
set_option maxHeartbeats 4000000
set_option maxRecDepth 100000
namespace Go.Proofs.YtbnkbepgmenblaaGreat
open Go.RowKit
attribute [local go_sem ↓] Go.wp_at_zero Go.wp_at_succ
def putA:Tr->List Int->Tr->Tr
 |_, [],u=> u
 | .mk k n ks,i::r,u=> .mk k n (ks.set i.toNat (putA (kd ks i.toNat) r u))
theorem q71(t u:Tr):putA t [] u=u:=by cases t;rfl
theorem kd_set{ks:List Tr}{i:Nat}(h:i < ks.length)(x:Tr):kd (ks.set i x) i=x:=by
 unfold kd;rw[List.getD_eq_getElem?_getD,List.getElem?_set_self h]
 rfl
theorem set_kd{ks:List Tr}{i:Nat}(h:i < ks.length):ks.set i (kd ks i)=ks:=by
 unfold kd;rw[List.getD_eq_getElem?_getD,List.getElem?_eq_getElem h];exact List.set_getElem_self h
theorem y155: ∀(p:List Int) (t u o:Tr),atT t p=some o->atT (putA t p u) p=some u/\putA (putA t p u) p o=t
 | [],t,u,o,h=> by
  have e:t=o:=by cases t;simpa[atT] using h
  subst e;rw[q71,q71];exact⟨by cases u;rfl,rfl⟩
 |i::r,.mk k n ks,u,o,h=> by
  rw[atT] at h
  split at h
  · rename_i hi
    obtain⟨h1,h2⟩:=y155 r (kd ks i.toNat) u o h;have hl:i.toNat < ks.length:=by omega
    rw[putA,atT,List.length_set,if_pos hi,kd_set hl,putA,kd_set hl,h2,List.set_set,set_kd hl];exact⟨h1,rfl⟩
  · cases h
theorem y157: ∀{ks:List Tr} {i:Nat} (h:i < ks.length) (x:Tr),cnts (ks.set i x)+cnt (kd ks i)=cnts ks+cnt x
 |t::ts,0,h,x=> by simp[kd,cnts];omega
 |t::ts,i+1,h,x=> by
  have:=y157 (ks:=ts) (i:=i) (by simpa using h) x;rw[y187,List.set_cons_succ,cnts,cnts];omega
theorem j150: ∀(p:List Int) (t u o:Tr),atT t p=some o->cnt (putA t p u)+cnt o=cnt t+cnt u
 | [],t,u,o,h=> by
  have e:t=o:=by cases t;simpa[atT] using h
  subst e;rw[q71];omega
 |i::r,.mk k n ks,u,o,h=> by
  rw[atT] at h
  split at h
  · rename_i hi
    have h1:=j150 r (kd ks i.toNat) u o h;have h2:=y157 (ks:=ks) (i:=i.toNat) (by omega) (putA (kd ks i.toNat) r u);rw[putA,cnt,cnt];omega
  · cases h
theorem y85{P:Program}(w:World){ops:Array Oper}{rest:List Oper}{o:Oper}{a:Act}{Q:Exit->Act->World->Prop}(hgd:o.guard=none)(s x:Operand)(t:TypeId)
 (ho:o.op= .call {callee:= .builtin .append,args:=#[s,x],argTypes:=#[t,t]})
 (base:Nat) (e:TypeId) (i:TypeInfo) (z:Value) (ht:P.underlying t=some (.slice e)) (hi:P.info? e=some i) (hz:i.zero=some z) (hsize:i.size=3) (hby:i.bytes=40) (hzs:z.cells.size=3)
 {v:Value} {b0 o0 cap:Nat} {ks:List Tr} (hs:a.eval s=v) (hown:w.ownsRow base e 3 v 0 []) (hbase:base<=w.heap.size) (hx:a.eval x= .slice (some ⟨b0,o0,none⟩) ks.length cap) {S:Nat->Prop} (hS: ∀b,S b->b < w.heap.size/\v.ownBlock≠some b) (hK:InL w S b0 o0 ks) (hn:ks.length<=1048576) (h0:0 < ks.length)
 (h: ∀(c' g:Nat) (cs:Array Value) (w':World),w'.heap[g]? =some (.cells cs e (0,0))->base<=g->ks.length*3<=cs.size->RowL w' S cs.toList ks->ks.length<=c'->c'<=maxLen->w.grownBy w' v.ownBlock->wpList P ops Q rest (a.put o.dst (.slice (some ⟨g,0,none⟩) ks.length c')) w'):wpList P ops Q (o::rest) a w:=by
 refine wpList_plain hgd fun K hK'=> ?_
 obtain⟨xs,n1,n2,n3,n4⟩:=hK.rowL;obtain⟨v',w',hr,r1,r2,r3⟩:=y18 (P:=P) w base t o.type e i z 3 40 ht hi hz hsize hby hzs (by decide) v 0 [] hown ⟨b0,o0,none⟩ ks.length cap xs n1 (fun j u hu=> by rw[Addr.add_lit];exact n2 j u hu) n3 (by unfold maxLen;omega) (by omega) hbase;rw[Nat.zero_add,List.nil_append] at r1;unfold Oper.wp execOp;simp only[ho,resolve,invoke,builtin,Sem.run_bind,Sem.run_pure,Result.andThen_ok,List.map_toArray,List.map_cons,List.map_nil,hs,hx,hr];rcases r1.2 with⟨-,h5⟩ |⟨g,c',cs,rfl,hb,hg,ji,hcm,hcs,ht'⟩
 · omega
 · refine hK' _ _ (h c' g cs w' hg hb (by rw[hcs];exact Nat.mul_le_mul_right _ ji) ?_ ji hcm r2)
   have h6:=RowL.tail (cs.toList.drop (ks.length*3)) (n4.mono (fun _ h=> h) (fun b hb=> r2.block b (hS b hb).1 (fun he=>(hS b hb).2 he.symm)));rw[<-ht',List.take_append_drop] at h6;exact h6
theorem j158:(Tryz.prog.info? 25).map (fun i=>(i.zero,i.size,i.bytes))=some (some (.agg #[.int .i64 0,.int .i64 0,.slice none 0 0]),3,40):=by kernel_rfl
theorem y108(ks:List Tr)(w:World)(S:Nat->Prop)(hS: ∀b,S b->b < w.heap.size)(b o cap:Nat)(hb:S b)(hK:InL w S b o ks)(hn:ks.length<=1048576)(h0:0 < ks.length):Calls Tryz.prog 152 #[.slice (some ⟨b,o,none⟩) ks.length cap] w fun e w'=>
 ∃(c g:Nat) (cs:Array Value),e= .returned (.slice (some ⟨g,0,none⟩) ks.length c)/\w'.heap[g]? =some (.cells cs 25 (0,0))/\w.heap.size<=g/\ks.length*3<=cs.size/\RowL w' S cs.toList ks/\ks.length<=c/\c<=maxLen/\Ext w w':=by
 obtain⟨i0,hi,hz0,hz1,hz2⟩:=info_parts j158;have hx:=(xr w).alloc (.cells #[] 25);have hK2:InL (w.alloc (.cells #[] 25)) S b o ks:=InL.mono (fun _ h=> h) (fun x Xf=> hx.heap x (hS x Xf)) hb hK;have hG:(w.alloc (.cells #[] 25)).ownsRow w.heap.size 25 3 (.slice (some ⟨w.heap.size,0,none⟩) 0 0) 0 []:=World.ownsRow_lit w #[] 0 (Nat.le_refl _) (Nat.zero_le _) rfl;have hnil: ∀W,(binOp .eql 23 (.slice (some ⟨b,o,none⟩) ks.length cap) (.slice none 0 0)).run Tryz.prog W= .ok (.bool false) W:=fun W=> Lib.run_eql_slice_nil W 23 _ (some ⟨b,o,none⟩) ks.length cap 0 0 Tryz.underlying23
 clear hK;go_enter Tryz.func152,Tryz.ntmps152;go_wp2_with (at_builtin;refine y85 _ rfl (.tmp 5) (.tmp 6) 23 rfl w.heap.size 25 i0 _ Tryz.underlying23 hi hz0 hz1 hz2 rfl (S:=S) (v:= .slice (some ⟨w.heap.size,0,none⟩) 0 0) rfl hG (by simp) rfl (fun y hy=>⟨by have h9:y < w.heap.size:=hS y hy;simp;omega,by have h9:y < w.heap.size:=hS y hy;simp[Value.ownBlock];omega⟩) hK2 hn h0 ?_)
 intro c g cs w' r1 r2 r3 r4 r5 r6 r7;have hE:Ext w w':=hx.grown r7 (by intro k hk;simp[Value.ownBlock] at hk;omega);go_wp2_with fail;go_ret;exact⟨c,g,cs,rfl,r1,r2,r3,r4,r5,r6,hE⟩
structure PFs (w:World) (A:Option Addr) (n cap:Nat) (p:List Int):Prop where
 hn:p.length=n
 hl:n<=cap
 hc:cap<=maxLen
 hP:Nums w A p
theorem PFs.ext{w w':World}{A:Option Addr}{n cap:Nat}{p:List Int}(h:PFs w A n cap p)(he:Ext w w'):PFs w' A n cap p:=⟨h.hn,h.hl,h.hc,h.hP.ext he⟩
theorem PFs.tail{w:World}{b o n cap:Nat}{i:Int}{r:List Int}(h:PFs w (some ⟨b,o,none⟩) n cap (i::r)):PFs w (if cap=1 then some ⟨b,o,none⟩ else some ⟨b,o+1,none⟩) (n - 1) (cap - 1) r:=by
 obtain⟨h1,h2,h3,h4⟩:=h;simp only[List.length_cons] at h1;refine⟨by omega,by omega,by omega, ?_⟩;by_cases hc:cap=1
 · exact .inl (List.eq_nil_of_length_eq_zero (by omega))
 · rw[if_neg hc]
   rcases h4 with h4|⟨b',o',he,hb,hcell⟩
   · cases h4
   · simp only[Option.some.injEq,Addr.mk.injEq,and_true] at he
     obtain⟨rfl,rfl⟩:=he;refine .inr ⟨b,o+1,rfl,hb,fun j hj=> ?_⟩;have:=hcell (j+1) (by simpa using hj)
     rwa [show o+(j+1)=o+1+j by omega] at this
def PutC(p:List Int):Prop:= ∀(t u:Tr) (d:Int),shape sigT t d=true->(atT t p).isSome=true-> ∀(w:World) (vt vu:Value) (S:Nat->Prop),(∀b,S b->b < w.heap.size)->InT w S t vt->InT w S u vu-> ∀(A:Option Addr) (n cap:Nat),PFs w A n cap p->n<=1000->cnt t<=1000000->
 Calls Tryz.prog 111 #[vt,.slice A n cap,vu] w fun e w'=> ∃x,e= .returned x/\InT w' (fun b=> S b\/w.heap.size<=b/\b < w'.heap.size) (putA t p u) x/\Ext w w'
theorem put_any: ∀p:List Int,PutC p:=fun p=> by
 induction p with
 |nil=>
  intro t u d hsh hat w vt vu S hS hT hU A n cap hp az I1;obtain⟨k,nn,ks⟩:=t;obtain⟨At,ct,rfl,hlt,p6,tk⟩:=InT.mk_iff.1 hT;obtain⟨ku,nu,us⟩:=u;have Hf:=hU;obtain⟨Au,cu,rfl,hlu,Ex,hKu⟩:=InT.mk_iff.1 hU;have ah:n=0:=hp.hn.symm;subst ah;have hx0:=(((xr w).alloc (.cells #[.int .i64 k,.int .i64 nn,.slice At ks.length ct] 25)).alloc (.cells #[.int .i64 ku,.int .i64 nu,.slice Au us.length cu] 25)).alloc (.cells #[.int .i64 0,.int .i64 0,.slice none 0 0] 25);obtain⟨hb0,hb1,hb2,hs2⟩:=blk3 (xr (((w.alloc (.cells #[.int .i64 k,.int .i64 nn,.slice At ks.length ct] 25)).alloc (.cells #[.int .i64 ku,.int .i64 nu,.slice Au us.length cu] 25)).alloc (.cells #[.int .i64 0,.int .i64 0,.slice none 0 0] 25)));go_enter Tryz.func111,Tryz.ntmps111;go_wp2_with fail;rw[q71];refine bodyPost_ret (v:= .agg #[.int .i64 ku,.int .i64 nu,.slice Au us.length cu]) (by simp[results,Tryz.results111,go_sem]) rfl ⟨_,rfl, ?_, ?_⟩
  · exact InT.mono (fun b hb=> .inl hb) (fun b hb=>((((xr w).alloc _).alloc _).alloc _).heap b (hS b hb)) Hf
  · exact(((xr w).alloc _).alloc _).alloc _
 |cons i r ih=>
  intro t u d hsh hat w vt vu S hS hT hU A n cap hp az I1;obtain⟨k,nn,ks⟩:=t;obtain⟨At,ct,rfl,hlt,p6,tk⟩:=InT.mk_iff.1 hT;obtain⟨ku,nu,us⟩:=u;have Hf:=hU;obtain⟨Au,cu,rfl,hlu,Ex,hKu⟩:=InT.mk_iff.1 hU;have ah:n=r.length+1:=by have:=hp.hn;simpa using this.symm
  obtain⟨b1,o1,rfl,cp⟩:=hp.hP.get (xr w) (j:=0) (by simp);simp only[List.getElem_cons_zero,Nat.add_zero] at cp;have hi:0<=i/\i < ks.length:=by
   rw[atT] at hat
   split at hat
   · assumption
   · cases hat
  rw[atT,if_pos hi] at hat;obtain⟨m,rfl⟩:=Int.eq_ofNat_of_zero_le hi.1;have hm:m < ks.length:=by omega
  have Iq:((m:Int)).toNat=m:=by omega
  rw[Iq] at hat;have hput:putA (.mk k nn ks) ((m:Int)::r) (.mk ku nu us)= .mk k nn (ks.set m (putA (kd ks m) r (.mk ku nu us))):=by rw[putA,Iq]
  rw[hput];obtain⟨b,o,k2,n2,A2,c2,l8,rfl,jv,Wm,d0,d1,d2,Z8,U1,hK2⟩:=InK.at_ tk hm;have E7:kd ks m= .mk k2 n2 l8:=q43 hm Wm;obtain⟨-,-,-,hsk⟩:=q25 hsh;have lw:shape sigT (.mk k2 n2 l8) (d - 1)=true:=by have:=hsk _ (List.getElem_mem hm);rwa [Wm] at this
  have Ev:InT w S (.mk k2 n2 l8) (.agg #[.int .i64 k2,.int .i64 n2,.slice A2 l8.length c2]):=InT.mk_iff.2 ⟨A2,c2,rfl,Z8,U1,hK2⟩;have hcm:cnt (.mk k2 n2 l8)<=cnts ks:=by have:=y15 (List.getElem_mem hm);rwa [Wm] at this
  simp only[cnt] at I1;rw[E7] at hat⊢;have Kn:InL w S b o ks:=by
   rcases tk with h|⟨b',o',he,-,hh⟩
   · subst h;simp at hm
   · simp only[Option.some.injEq,Addr.mk.injEq,and_true] at he
     obtain⟨rfl,rfl⟩:=he;exact hh
  have hlc:=y19 ks;have Ob:=hS b jv;have hb1w:b1 < w.heap.size:=World.block_lt_of_cell? _ _ cp;have hx0:=(((xr w).alloc (.cells #[.int .i64 k,.int .i64 nn,.slice (some ⟨b,o,none⟩) ks.length ct] 25)).alloc (.cells #[.int .i64 ku,.int .i64 nu,.slice Au us.length cu] 25)).alloc (.cells #[.int .i64 0,.int .i64 0,.slice none 0 0] 25);obtain⟨hb0,Br,hbr,hs2⟩:=blk3 (xr (((w.alloc (.cells #[.int .i64 k,.int .i64 nn,.slice (some ⟨b,o,none⟩) ks.length ct] 25)).alloc (.cells #[.int .i64 ku,.int .i64 nu,.slice Au us.length cu] 25)).alloc (.cells #[.int .i64 0,.int .i64 0,.slice none 0 0] 25)));have Oi:=hp.tail;have hcpb:n<=cap:=hp.hl;have Jy:cap<=maxLen:=hp.hc;unfold maxLen at Jy;obtain⟨AD,Ih⟩: ∃AD,(if cap=1 then some (⟨b1,o1,none⟩:Addr) else some ⟨b1,o1+1,none⟩)=AD:=⟨_,rfl⟩;rw[Ih] at Oi;have HAD:=hdq Ih;have hnz:((n:Int)==0)=false:=beq_eq_false_iff_ne.2 (by omega);have H':(n==0)=false:=beq_eq_false_iff_ne.2 (by omega);have Kw:(0:Int) <(n:Int):=by omega
  have Lg:(1:Int)<=(n:Int):=by omega
  have hn6:0 < n:=by omega
  have hn7:1<=n:=by omega
  have hn8:1<=cap:=by omega
  have Ou:(1:Int)<=(cap:Int):=by omega
  have hn5:(n:Int)<=(cap:Int):=by omega
  have Ue:(m:Int) <(ks.length:Int):=by omega
  have hm3:(0:Int)<=(m:Int):=by omega
  clear Ih hput hsk Wm Iq hi ah hT hU E7;go_enter Tryz.func111,Tryz.ntmps111;go_wp2_with fail;generalize World.alloc (World.alloc (World.alloc w _) _) _=wS at hx0 hb0 Br hbr hs2⊢;obtain⟨z0,z1,z2,-,-,-⟩:=own3 hb0;have Jx:=hdq (show∀w',Ext wS w'->w'.cell? ⟨w.heap.size,0,none⟩=some (.int .i64 k)/\w'.cell? ⟨w.heap.size,1,none⟩=some (.int .i64 nn)/\w'.cell? ⟨w.heap.size,2,none⟩=some (.slice (some ⟨b,o,none⟩) ks.length ct) from fun w' hw=>⟨hw.cell z0,hw.cell z1,hw.cell z2⟩);have X0:Ext wS wS.drew:=(xr wS).drew;have Vz: ∀y,S y->y < wS.heap.size:=fun y hy=> by have:=hS y hy;have:=hx0.size;omega
  have hKS:InL wS S b o ks:=InL.mono (fun _ h=> h) (fun y hy=> hx0.heap y (hS y hy)) jv Kn;have Fq: ∀V,Ext wS V->InL V S b o ks:=fun V hV=> InL.mono (fun _ h=> h) (fun y hy=> hV.heap y (Vz y hy)) jv hKS
  have Nn:=hdq Fq;clear Fq z0 z1 z2
  go_region_held3 (fun w'=> w'.cell? ⟨w.heap.size,0,none⟩=some (.int .i64 k)/\w'.cell? ⟨w.heap.size,1,none⟩=some (.int .i64 nn)/\w'.cell? ⟨w.heap.size,2,none⟩=some (.slice (some ⟨b,o,none⟩) ks.length ct))
   (first|exact Jx.out _ (((ny.setCell (p:=⟨wS.heap.size,0,none⟩) (Nat.le_refl _) _).setCell (p:=⟨wS.heap.size,1,none⟩) (Nat.le_refl _) _).setCell (p:=⟨wS.heap.size,2,none⟩) (Nat.le_refl _) _) |exact Jx.out _ (ny.alloc _) |exact Jx.out _ ny|exact Jx.out _ X0|exact Jx.out _ (X0.alloc _) |exact Jx.out _ ((xr wS).alloc _).drew)
   (first|(go_at_call 152;refine(y108 ks _ S (fun y hy=> Nat.lt_of_lt_of_le (Vz y hy) (Ext.size (by first|exact X0|exact X0.alloc _|exact((xr wS).alloc _).drew))) b o ct jv (Nn.out _ (by first|exact X0|exact X0.alloc _|exact((xr wS).alloc _).drew)) (by omega) (by omega)).mono ?_;rintro e wd ⟨c,g,cs,rfl,hrow,G0,hcs,hRl,hc1,hc2',ed⟩;have ny:Ext wS wd:=(by first|exact X0.trans ed|exact(X0.alloc _).trans ed|exact(((xr wS).alloc _).drew).trans ed);(first|(have qb:wd.heap[wS.heap.size]? =some (.cells #[.int .i64 0,.int .i64 0,.slice none 0 0] 25 (0,0)):=ed.blk (heap_alloc_new wS.drew (.cells #[.int .i64 0,.int .i64 0,.slice none 0 0] 25));have hgb:wS.heap.size < g:=(by simp at G0;omega);obtain⟨sa,sb,sc,fa,fb,fc⟩:=own3 qb) |(have qb:wd.heap[wS.heap.size]? =some (.cells #[.int .i64 0,.int .i64 0,.slice none 0 0] 25 (0,0)):=ed.blk (heap_alloc_new wS (.cells #[.int .i64 0,.int .i64 0,.slice none 0 0] 25));have hgb:wS.heap.size < g:=(by simp at G0;omega);obtain⟨sa,sb,sc,fa,fb,fc⟩:=own3 qb) |(have qb:=trivial;have hgb:=trivial))))
  all_goals have hws:w.heap.size+3<=wS.heap.size:=by omega
  all_goals have hgS:wS.heap.size<=g:=by have h9:=G0;simp at h9;omega
  all_goals(first
   |(have en:Ext wS (wd.alloc (.cells #[.int .i64 k,.int .i64 nn,.slice (some ⟨g,0,none⟩) ks.length c] 25)):=ny.alloc _;have bn:=heap_alloc_new wd (.cells #[.int .i64 k,.int .i64 nn,.slice (some ⟨g,0,none⟩) ks.length c] 25);have rn:=((xr wd).alloc (.cells #[.int .i64 k,.int .i64 nn,.slice (some ⟨g,0,none⟩) ks.length c] 25)).blk hrow;have Rn:RowL (wd.alloc (.cells #[.int .i64 k,.int .i64 nn,.slice (some ⟨g,0,none⟩) ks.length c] 25)) S cs.toList ks:=hRl.mono (fun _ h=> h) (fun y hy=> Below.heap_alloc wd _ y (by have:=Vz y hy;have:=ny.size;omega));have gne:wd.heap.size≠g:=(by have:=j10 hrow;omega);have gw:wS.heap.size<=wd.heap.size:=ny.size;obtain⟨w7,F7⟩: ∃x,x=wd.alloc (.cells #[.int .i64 k,.int .i64 nn,.slice (some ⟨g,0,none⟩) ks.length c] 25):=⟨_,rfl⟩;rw[<-F7];rw[<-F7] at en bn rn Rn;clear F7;obtain⟨g7,F4⟩: ∃x,x=wd.heap.size:=⟨_,rfl⟩;rw[<-F4] at bn gne gw⊢;clear F4)
   |(have en:Ext wS (((wd.setCell ⟨wS.heap.size,0,none⟩ (.int .i64 k)).setCell ⟨wS.heap.size,1,none⟩ (.int .i64 nn)).setCell ⟨wS.heap.size,2,none⟩ (.slice (some ⟨g,0,none⟩) ks.length c)):=((ny.setCell (p:=⟨wS.heap.size,0,none⟩) (Nat.le_refl _) _).setCell (p:=⟨wS.heap.size,1,none⟩) (Nat.le_refl _) _).setCell (p:=⟨wS.heap.size,2,none⟩) (Nat.le_refl _) _;have bn:=j11 (j11 (j11 qb 0 (.int .i64 k)) 1 (.int .i64 nn)) 2 (.slice (some ⟨g,0,none⟩) ks.length c);have rn:=q13 (q13 (q13 hrow (p:=⟨wS.heap.size,0,none⟩) (by show g≠wS.heap.size;omega) (.int .i64 k)) (p:=⟨wS.heap.size,1,none⟩) (by show g≠wS.heap.size;omega) (.int .i64 nn)) (p:=⟨wS.heap.size,2,none⟩) (by show g≠wS.heap.size;omega) (.slice (some ⟨g,0,none⟩) ks.length c);have Rn:RowL (((wd.setCell ⟨wS.heap.size,0,none⟩ (.int .i64 k)).setCell ⟨wS.heap.size,1,none⟩ (.int .i64 nn)).setCell ⟨wS.heap.size,2,none⟩ (.slice (some ⟨g,0,none⟩) ks.length c)) S cs.toList ks:=hRl.mono (fun _ h=> h) (fun y hy=> by have h8:=Vz y hy;rw[Below.heap_setCell _ _ _ _ (by show y≠wS.heap.size;omega),Below.heap_setCell _ _ _ _ (by show y≠wS.heap.size;omega),Below.heap_setCell _ _ _ _ (by show y≠wS.heap.size;omega)]);have gne:wS.heap.size≠g:=(by omega);obtain⟨w7,F7⟩: ∃x,x=(((wd.setCell ⟨wS.heap.size,0,none⟩ (.int .i64 k)).setCell ⟨wS.heap.size,1,none⟩ (.int .i64 nn)).setCell ⟨wS.heap.size,2,none⟩ (.slice (some ⟨g,0,none⟩) ks.length c)):=⟨_,rfl⟩;rw[<-F7];rw[<-F7] at en bn rn Rn;clear F7;obtain⟨g7,F4⟩: ∃x,x=wS.heap.size:=⟨_,rfl⟩;have gw:wS.heap.size<=g7:=(by rw[F4];exact Nat.le_refl _);rw[<-F4] at bn gne⊢;clear F4))
  all_goals(
   try clear sa sb sc fa fb fc
   clear qb hgb ny ed hrow hRl G0 X0 Jx;have Eo:Ext w w7:=hx0.trans en;obtain⟨y0,y1,y2,-,-,-⟩:=own3 bn;obtain⟨-,-,t2,-,-,-⟩:=own3 (en.blk hb0);obtain⟨v0,v1,v2,-,-,-⟩:=own3 (en.blk Br);have p0:=Eo.cell cp;have q0:=Eo.cell d0;have q1:=Eo.cell d1;have q2:=Eo.cell d2;have F4:g7 < w7.heap.size:=j10 bn;have hgr:g < w7.heap.size:=j10 rn;have Bz:=hdq (show∀w':World,(∀y,y < w7.heap.size->y≠g->w'.heap[y]? =w7.heap[y]?)->w'.cell? ⟨g7,2,none⟩=some (.slice (some ⟨g,0,none⟩) ks.length c)/\w'.cell? ⟨w.heap.size,2,none⟩=some (.slice (some ⟨b,o,none⟩) ks.length ct)/\w'.cell? ⟨b1,o1,none⟩=some (.int .i64 m)/\w'.cell? ⟨b,o+m*3,none⟩=some (.int .i64 k2)/\w'.cell? ⟨b,o+m*3+1,none⟩=some (.int .i64 n2)/\w'.cell? ⟨b,o+m*3+2,none⟩=some (.slice A2 l8.length c2)/\w'.cell? ⟨w.heap.size+1,0,none⟩=some (.int .i64 ku)/\w'.cell? ⟨w.heap.size+1,1,none⟩=some (.int .i64 nu)/\w'.cell? ⟨w.heap.size+1,2,none⟩=some (.slice Au us.length cu) from fun w' hw=> by
    have f: ∀(y j:Nat) (x:Value),y < w7.heap.size->y≠g->w7.cell? ⟨y,j,none⟩=some x->w'.cell? ⟨y,j,none⟩=some x:=fun y j x h1 h2 h3=>(World.cell?_of_block (a:=⟨y,j,none⟩) (hw y h1 h2)).trans h3
    exact⟨f _ _ _ F4 gne y2,f _ _ _ (by omega) (by omega) t2,f _ _ _ (by omega) (by omega) p0,f _ _ _ (by omega) (by omega) q0,f _ _ _ (by omega) (by omega) q1,f _ _ _ (by omega) (by omega) q2,f _ _ _ (by omega) (by omega) v0,f _ _ _ (by omega) (by omega) v1,f _ _ _ (by omega) (by omega) v2⟩)
   have X7:Ext w7 w7.drew:=(xr w7).drew;have hS7: ∀y,S y->y < w7.heap.size:=fun y hy=> by have:=hS y hy;omega
   go_wp2_with fail;clear y0 y1 y2 t2 v0 v1 v2 p0 q0 q1 q2
   go_region_held3 (fun w'=> w'.cell? ⟨g7,2,none⟩=some (.slice (some ⟨g,0,none⟩) ks.length c)/\w'.cell? ⟨w.heap.size,2,none⟩=some (.slice (some ⟨b,o,none⟩) ks.length ct)/\w'.cell? ⟨b1,o1,none⟩=some (.int .i64 m)/\w'.cell? ⟨b,o+m*3,none⟩=some (.int .i64 k2)/\w'.cell? ⟨b,o+m*3+1,none⟩=some (.int .i64 n2)/\w'.cell? ⟨b,o+m*3+2,none⟩=some (.slice A2 l8.length c2)/\w'.cell? ⟨w.heap.size+1,0,none⟩=some (.int .i64 ku)/\w'.cell? ⟨w.heap.size+1,1,none⟩=some (.int .i64 nu)/\w'.cell? ⟨w.heap.size+1,2,none⟩=some (.slice Au us.length cu))
    (first|exact Bz.out _ (fun y h1 h2=> by rw[Below.heap_setCell _ _ _ _ h2,Below.heap_setCell _ _ _ _ h2,Below.heap_setCell _ _ _ _ h2];exact qj.heap y h1) |exact Bz.out _ (fun y h1 _=> qj.heap y h1) |exact Bz.out _ (fun y h1 _=> X7.heap y h1))
    (first|(go_at_call 111;(try rw[HAD.out]);refine(ih _ _ (d - 1) lw hat w7.drew _ _ S (fun y hy=> hS7 y hy) (InT.mono (fun _ h=> h) (fun y hy=>(Eo.trans X7).heap y (hS y hy)) Ev) (InT.mono (fun _ h=> h) (fun y hy=>(Eo.trans X7).heap y (hS y hy)) Hf) _ _ _ (Oi.ext (Eo.trans X7)) (by omega) (by omega)).mono ?_;rintro e w8 ⟨x,rfl,Ka,e8⟩;have qj:Ext w7 w8:=X7.trans e8;have Dh:=Ka;obtain⟨x1,x2,x3,x4,x5,rfl⟩:=InT.three Dh;clear Dh;obtain⟨u0,u1,u2,r0,r1,r2,f0,f1,f2⟩:=cells3 (i:=m*3) (qj.blk rn) (by omega)))
   clear u0 u1 u2 r0 r1 r2 f0 f1 f2 Bz X7 e8 HAD;have Wp:=j11 (j11 (j11 (qj.blk rn) (m*3) (.int .i64 x1)) (m*3+1) (.int .i64 x2)) (m*3+2) (.slice x3 x4 x5);have keep: ∀y,y≠g->(((w8.setCell ⟨g,m*3,none⟩ (.int .i64 x1)).setCell ⟨g,m*3+1,none⟩ (.int .i64 x2)).setCell ⟨g,m*3+2,none⟩ (.slice x3 x4 x5)).heap[y]? =w8.heap[y]? :=fun y hy=> by rw[Below.heap_setCell _ _ _ _ hy,Below.heap_setCell _ _ _ _ hy,Below.heap_setCell _ _ _ _ hy]
   have hsz9:(((w8.setCell ⟨g,m*3,none⟩ (.int .i64 x1)).setCell ⟨g,m*3+1,none⟩ (.int .i64 x2)).setCell ⟨g,m*3+2,none⟩ (.slice x3 x4 x5)).heap.size=w8.heap.size:=by simp
   have Lq:Ext w (((w8.setCell ⟨g,m*3,none⟩ (.int .i64 x1)).setCell ⟨g,m*3+1,none⟩ (.int .i64 x2)).setCell ⟨g,m*3+2,none⟩ (.slice x3 x4 x5)):=(((Eo.trans qj).setCell (p:=⟨g,m*3,none⟩) (by show w.heap.size<=g;omega) _).setCell (p:=⟨g,m*3+1,none⟩) (by show w.heap.size<=g;omega) _).setCell (p:=⟨g,m*3+2,none⟩) (by show w.heap.size<=g;omega) _;obtain⟨w9,hw9⟩: ∃x,x=(((w8.setCell ⟨g,m*3,none⟩ (.int .i64 x1)).setCell ⟨g,m*3+1,none⟩ (.int .i64 x2)).setCell ⟨g,m*3+2,none⟩ (.slice x3 x4 x5)):=⟨_,rfl⟩;rw[<-hw9] at Wp keep hsz9 Lq⊢;clear hw9;have hs78:=qj.size;have bn9:=(keep g7 gne).trans (qj.blk bn);have br9:=(keep (w.heap.size+1+1) (by omega)).trans (qj.blk (en.blk hbr));have Rn9:RowL w9 (fun y=> S y\/w.heap.size+3<=y/\y < w9.heap.size) cs.toList ks:=Rn.mono (fun y hy=> .inl hy) (fun y hy=>(keep y (by have:=hS y hy;omega)).trans (qj.heap y (hS7 y hy)));have Dh:InT w9 (fun y=> S y\/w.heap.size+3<=y/\y < w9.heap.size) (putA (.mk k2 n2 l8) r (.mk ku nu us)) (.agg #[.int .i64 x1,.int .i64 x2,.slice x3 x4 x5]):=InT.mono (fun y hy=> by
    rcases hy with hy|hy
    · exact .inl hy
    · have h9:w7.heap.size<=y:=hy.1
      have h8:=hy.2;exact .inr ⟨by omega,by omega⟩) (fun y hy=> keep y (by
    rcases hy with hy|hy
    · have:=hS y hy;omega
    · have h9:w7.heap.size<=y:=hy.1
      omega)) Ka
   have ib:=RowL.set Dh m Rn9;have V3:=RowL.inL Wp (pre:= []) ib (by simp[Array.toList_setIfInBounds]);have HK9:=hdq V3;have HKP:=hdq Lq;obtain⟨y0,y1,y2,-,-,-⟩:=own3 bn9;obtain⟨s0,s1,s2,f0,f1,f2⟩:=own3 br9;have hwg:w.heap.size+1+1 < w9.heap.size:=j10 br9;have hgg:g < w9.heap.size:=j10 Wp;clear keep Lq V3 ib Dh Rn9 Rn rn Wp bn bn9 br9 Ka hb0 Br hbr Nn;go_wp2_with fail;refine bodyPost_ret (v:= .agg #[.int .i64 k,.int .i64 nn,.slice (some ⟨g,0,none⟩) ks.length c]) (by simp[results,Tryz.results111,go_sem,s0,s1,s2]) rfl ⟨_,rfl, ?_, ?_⟩
   · refine InT.mk_iff.2 ⟨some ⟨g,0,none⟩,c,by rw[List.length_set],by rw[List.length_set];exact hc1,hc2',.inr ⟨g,0,rfl,.inr ⟨by omega,by simpa using hgg⟩, ?_⟩⟩
     refine InL.mono (S:=fun y=> S y\/w.heap.size+3<=y/\y < w9.heap.size) (fun y hy=> ?_) (fun y hy=> ?_) (.inr ⟨by omega,hgg⟩) HK9.out
     · rcases hy with hy|hy
       · exact .inl hy
       · exact .inr ⟨by omega,by simpa using hy.2⟩
     · have hne:y≠w.heap.size+1+1:=by
        rcases hy with hy|hy
        · have:=hS y hy;omega
        · omega
       rw[Below.heap_setCell _ _ _ _ hne,Below.heap_setCell _ _ _ _ hne,Below.heap_setCell _ _ _ _ hne]
   · exact((HKP.out.setCell (by show w.heap.size<=w.heap.size+1+1;omega) _).setCell (by show w.heap.size<=w.heap.size+1+1;omega) _).setCell (by show w.heap.size<=w.heap.size+1+1;omega) _)
end Go.Proofs.YtbnkbepgmenblaaGreat
namespace Go.Proofs.YtbnkbepgmenblaaGreat
open Go.RowKit
theorem Only.blk{L:List Nat}{a w:World}{g:Nat}{o:Obj}(h:Only L a w)(hb:a.heap[g]? =some o)(hn: ¬g∈L):w.heap[g]? =some o:=(h.block g (j10 hb) hn).trans hb
theorem q49(n:Int)(w:World):Calls Tryz.prog 73 #[.int .i64 n] w fun e w'=> e= .returned (.agg #[.int .i64 1,.int .i64 n,.slice none 0 0])/\Ext w w':=by
 go_enter Tryz.func73,Tryz.ntmps73;go_wp2_with fail;exact bodyPost_ret (v:= .agg #[.int .i64 1,.int .i64 n,.slice none 0 0]) (by simp[results,Tryz.results73,go_sem]) rfl ⟨rfl,(xr w).alloc _⟩
theorem j104(k n:Int)(ks:List Tr)(A:Option Addr)(cap:Nat)(w:World)(j7:Lies w (.mk k n ks) (.agg #[.int .i64 k,.int .i64 n,.slice A ks.length cap])):
 Calls Tryz.prog 110 #[.agg #[.int .i64 k,.int .i64 n,.slice A ks.length cap]] w fun e w'=>(if valid sigT (.mk k n ks)=true then e= .returned (.tuple #[.agg #[.int .i64 k,.int .i64 n,.slice A ks.length cap],.bool true]) else e= .returned (.tuple #[.agg #[.int .i64 0,.int .i64 0,.slice none 0 0],.bool false]))/\Ext w w':=by
 have HV:=hdq (fun W (hW:Ext w W)=> y20 _ W _ (j7.ext hW));generalize valid sigT (.mk k n ks)=s at HV⊢;have hE:=((xr w).alloc (.cells #[.int .i64 k,.int .i64 n,.slice A ks.length cap] 25)).alloc (.cells #[.int .i64 0,.int .i64 0,.slice none 0 0] 25);obtain⟨T7,F2,hs1⟩:=blk2 (xr ((w.alloc (.cells #[.int .i64 k,.int .i64 n,.slice A ks.length cap] 25)).alloc (.cells #[.int .i64 0,.int .i64 0,.slice none 0 0] 25)));cases s with
 |true=>
  simp only[if_true];go_enter Tryz.func110,Tryz.ntmps110;go_wp2_with fail;refine(HV.out _ hE).mono ?_;rintro e w1 ⟨rfl,e1⟩;obtain⟨x0,x1,x2,-,-,-⟩:=own3 (e1.blk T7);obtain⟨s0,s1,s2,f0,f1,f2⟩:=own3 (e1.blk F2);go_wp2_with fail;exact bodyPost_ret (v:= .tuple #[.agg #[.int .i64 k,.int .i64 n,.slice A ks.length cap],.bool true]) (by simp[results,Tryz.results110,go_sem,s0,s1,s2]) rfl ⟨rfl,((((hE.trans e1).setCell (by simp) _).setCell (by simp) _).setCell (by simp) _)⟩
 |false=>
  simp only[Bool.false_eq_true,if_false];go_enter Tryz.func110,Tryz.ntmps110;go_wp2_with fail;refine(HV.out _ hE).mono ?_;rintro e w1 ⟨rfl,e1⟩;obtain⟨s0,s1,s2,f0,f1,f2⟩:=own3 (e1.blk F2);go_wp2_with fail;exact bodyPost_ret (v:= .tuple #[.agg #[.int .i64 0,.int .i64 0,.slice none 0 0],.bool false]) (by simp[results,Tryz.results110,go_sem,s0,s1,s2]) rfl ⟨rfl,((((hE.trans e1).setCell (by simp) _).setCell (by simp) _).setCell (by simp) _)⟩
def ShI(p1 p2 p3 B:Nat)(c y:Int)(w:World)(s:Bool):Prop:=(p1 < B/\p2 < B/\p3 < B)/\w.heap[p1]? =some (.cells #[.int .i64 c] 3 (0,0))/\w.heap[p2]? =some (.cells #[.int .i64 y] 3 (0,0))/\w.heap[p3]? =some (.cells #[.bool s] 4 (0,0))
theorem shift1(a:World)(p1 p2 p3 B:Nat)(c y:Int)(S9:p1≠p3)(qz:p2≠p3)(hy0:0<=y)(M8:y<=1000)(hc0:0<=c)(hc1:c<=1000):Chg_sh a p1 p2 p3 [p3] (ShI p1 p2 p3 B c y) (gsh y c) (hsh y c):=by
 intro w s n b ha hI ah az hb0 hb1;obtain⟨Lf,i1,i2,i3⟩:=hI;have c1:=q10 i1 0;have c2:=q10 i2 0;have c3:=q10 i3 0;have f3:=y13 i3 0;have l1:=j10 i1;have l2:=j10 i2;have l3:=j10 i3;have H1:=hdq i1;have H2:=hdq i2;have H3:=hdq i3;clear i1 i2 i3;have HV:=hdq (fun m W=> q49 m W);by_cases h:c<=n - b
 · have d1:decide (c<=n - b)=true:=decide_eq_true h
   obtain⟨b2,d2⟩: ∃x,decide (c<=n+y - b)=x:=⟨_,rfl⟩;obtain⟨b3,d3⟩: ∃x,decide (n+y<=20)=x:=⟨_,rfl⟩;have e1:gsh y c n b= .mk 1 (n+y) []:=by unfold gsh;rw[if_pos h]
   have e2:hsh y c n b=(b2 && b3):=by unfold hsh;rw[if_pos h,d2,d3]
   rw[e1,e2];clear e1 e2 h;cases s <;> cases b2 <;> cases b3
   all_goals go_enter Tryz.func171,Tryz.ntmps171
   all_goals go_wp2_with fail
   all_goals(
    refine(HV.out _ _).mono ?_;rintro e w1 ⟨rfl,e1⟩;have hb:=e1.newBlk;simp only[World.size_setCell] at hb;obtain⟨s0,s1,s2,f0,f1,f2⟩:=own3 hb;have o1:=fun u=>(((Only.refl [p3] w).setCell (p:=⟨p3,0,none⟩) (by simp) u).alloc (.cells #[.int .i64 0,.int .i64 0,.slice none 0 0] 25))
    have o2:=(o1 _).trans (oE e1);have q3:=fun u=> j11 H3.out 0 u
    have q4:=e1.blk ((Below.heap_alloc _ _ _ (by simp;omega)).trans (q3 _));clear hb;go_wp2_with fail;refine bodyPost_ret (v:= .agg #[.int .i64 1,.int .i64 (n+y),.slice none 0 0]) (by simp[results,Tryz.results171,go_sem,s0,s1,s2]) rfl ⟨_,rfl,Made.leaf _ _ _ _ _, ?_,Lf, ?_, ?_, ?_⟩
    · exact(((o2.setNew (by simp) _).setNew (by simp) _).setNew (by simp) _)
    · exact(((o2.setNew (by simp) _).setNew (by simp) _).setNew (by simp) _).blk H1.out (by simpa using S9)
    · exact(((o2.setNew (by simp) _).setNew (by simp) _).setNew (by simp) _).blk H2.out (by simpa using qz)
    · rw[Below.heap_setCell _ _ _ _ (by show p3≠w.heap.size;omega),Below.heap_setCell _ _ _ _ (by show p3≠w.heap.size;omega),Below.heap_setCell _ _ _ _ (by show p3≠w.heap.size;omega),q4]
      rfl)
 · have d1:decide (c<=n - b)=false:=decide_eq_false h
   have e1:gsh y c n b= .mk 1 n []:=by unfold gsh;rw[if_neg h]
   have e2:hsh y c n b=true:=by unfold hsh;rw[if_neg h]
   rw[e1,e2,Bool.and_true];clear e1 e2 h;go_enter Tryz.func171,Tryz.ntmps171;go_wp2_with fail;refine(HV.out _ _).mono ?_;rintro e w1 ⟨rfl,e1⟩;have hb:=e1.newBlk;obtain⟨s0,s1,s2,f0,f1,f2⟩:=own3 hb;have o2:=((Only.refl [p3] w).alloc (.cells #[.int .i64 0,.int .i64 0,.slice none 0 0] 25)).trans (oE e1);have q4:=(Ext.blk e1.pre H3.out);clear hb;go_wp2_with fail;refine bodyPost_ret (v:= .agg #[.int .i64 1,.int .i64 n,.slice none 0 0]) (by simp[results,Tryz.results171,go_sem,s0,s1,s2]) rfl ⟨_,rfl,Made.leaf _ _ _ _ _, ?_,Lf, ?_, ?_, ?_⟩
   · exact(((o2.setNew (by simp) _).setNew (by simp) _).setNew (by simp) _)
   · exact(((o2.setNew (by simp) _).setNew (by simp) _).setNew (by simp) _).blk H1.out (by simpa using S9)
   · exact(((o2.setNew (by simp) _).setNew (by simp) _).setNew (by simp) _).blk H2.out (by simpa using qz)
   · rw[Below.heap_setCell _ _ _ _ (by show p3≠w.heap.size;omega),Below.heap_setCell _ _ _ _ (by show p3≠w.heap.size;omega),Below.heap_setCell _ _ _ _ (by show p3≠w.heap.size;omega),q4]
def okT(t:Tr):Tr:=if valid sigT t=true then t else q16
theorem j78(t:Tr)(y c:Int)(w:World)(v:Value)(j7:Lies w t v)(hv:valid sigT t=true)(hy0:0<=y)(M8:y<=1000)(hc0:0<=c)(hc1:c<=1000):
 Calls Tryz.prog 128 #[v,.int .i64 y,.int .i64 c] w fun e w'=> ∃u,e= .returned (.tuple #[u,.bool (valid sigT (shfT y t c))])/\Made w w' 25 (okT (shfT y t c)) u/\Ext w w':=by
 obtain⟨hs,I1⟩:=y12 hv;obtain⟨i7,hw2⟩:=q202 (c:=c) hy0 hv;have Ir:=fun W (hW:Ext w W) p1 p2 p3 (hp:w.heap.size<=p3) (S9:p1≠p3) (qz:p2≠p3) (h1:W.heap[p1]? =some (.cells #[.int .i64 c] 3 (0,0))) (h2:W.heap[p2]? =some (.cells #[.int .i64 y] 3 (0,0))) (h3:W.heap[p3]? =some (.cells #[.bool true] 4 (0,0)))=>
  j109 t w W v 0 30 p1 p2 p3 [p3] W.heap.size (ShI p1 p2 p3 W.heap.size c y) (gsh y c) (hsh y c) true hs j7 hW (fun x hx=> by rw[List.mem_singleton.1 hx];exact⟨hp,j10 h3⟩) (by omega) (by omega)
   (shift1 w p1 p2 p3 _ c y S9 qz hy0 M8 hc0 hc1) (fun w1 w2 s h he=>⟨h.1,he.blk h.2.1,he.blk h.2.2.1,he.blk h.2.2.2⟩) (Nat.le_refl _) (fun w1 w2 s h he hl=>⟨h.1,(he p1 h.1.1).trans h.2.1,(he p2 h.1.2.1).trans h.2.2.1,(he p3 h.1.2.2).trans h.2.2.2⟩) ⟨⟨j10 h1,j10 h2,j10 h3⟩,h1,h2,h3⟩
 rw[hw2] at i7;simp only[hw2,Bool.true_and] at Ir;have Cn:=hdq Ir;clear Ir hw2 hs;obtain⟨vb,gf⟩: ∃vb,vb=valid sigT (shfT y t c):=⟨_,rfl⟩;obtain⟨rt,hrt⟩: ∃rt,rt=okT (shfT y t c):=⟨_,rfl⟩;rw[<-gf,<-hrt];generalize shfT y t c=r at i7 Cn gf hrt;generalize allT (hsh y c) t 0=f at i7 Cn;obtain⟨k,n,ks⟩:=t;obtain⟨A,cap,rfl,hl,hc,hK⟩:=Lies.mk_iff.1 j7;have hE:=((((xr w).alloc (.cells #[.int .i64 k,.int .i64 n,.slice A ks.length cap] 25)).alloc (.cells #[.int .i64 y] 3)).alloc (.cells #[.int .i64 c] 3)).alloc (.cells #[.int .i64 0,.int .i64 0,.slice none 0 0] 25);have Rv:=blk4 ((xr ((((w.alloc (.cells #[.int .i64 k,.int .i64 n,.slice A ks.length cap] 25)).alloc (.cells #[.int .i64 y] 3)).alloc (.cells #[.int .i64 c] 3)).alloc (.cells #[.int .i64 0,.int .i64 0,.slice none 0 0] 25))).alloc (.cells #[.bool true] 4));have R6:=heap_alloc_new ((((w.alloc (.cells #[.int .i64 k,.int .i64 n,.slice A ks.length cap] 25)).alloc (.cells #[.int .i64 y] 3)).alloc (.cells #[.int .i64 c] 3)).alloc (.cells #[.int .i64 0,.int .i64 0,.slice none 0 0] 25)) (.cells #[.bool true] 4);have fh:=hE.alloc (.cells #[.bool true] 4);have hsz:(((((w.alloc (.cells #[.int .i64 k,.int .i64 n,.slice A ks.length cap] 25)).alloc (.cells #[.int .i64 y] 3)).alloc (.cells #[.int .i64 c] 3)).alloc (.cells #[.int .i64 0,.int .i64 0,.slice none 0 0] 25)).alloc (.cells #[.bool true] 4)).heap.size=w.heap.size+1+1+1+1+1:=by simp
 obtain⟨hb1,hb2,hb3,hb4,-⟩:=Rv;simp only[World.size_alloc] at R6;go_enter Tryz.func128,Tryz.ntmps128;go_wp2_with fail;generalize World.alloc _ _=wa at fh hb1 hb2 hb3 hb4 R6 hsz;clear hE;refine(Cn.out wa fh _ _ _ (by omega) (by omega) (by omega) hb3 hb2 R6).mono ?_;rintro e w1 ⟨u,rfl,hM,ho,hI⟩;obtain⟨k2,n2,et⟩:=r;obtain⟨A2,c2,rfl,hl2,hc2,Xm⟩:=Made.mk_iff.1 hM;have io:=ho.blk hb4 (by simp);have i3:=hI.2.2.2;have Lb:=q10 i3 0;have hlt5:=j10 i3;have ii:=j10 io;have hso:=ho.size;have Ha:Ext w w1:=ho.ext fh (fun x hx=> by rw[List.mem_singleton.1 hx];omega);obtain⟨s0,s1,s2,f0,f1,f2⟩:=own3 io;clear Cn hb1 hb2 hb3 hb4 R6 hI i3;have hx:=(xr w1).alloc (.cells #[.int .i64 k2,.int .i64 n2,.slice A2 et.length c2] 25);cases f with
 |false=>
  rw[Bool.false_and] at i7;have h1:vb=false:=by rw[gf,<-i7]
  have h2:rt=q16:=by rw[hrt];unfold okT;rw[<-i7];rfl
  have H1:=hdq h1;have H2:=hdq h2;clear i7 gf hrt h1 h2;go_wp2_with fail;refine bodyPost_ret (v:= .tuple #[.agg #[.int .i64 0,.int .i64 0,.slice none 0 0],.bool false]) (by simp[results,Tryz.results128,go_sem,s0,s1,s2,ii]) rfl ⟨.agg #[.int .i64 0,.int .i64 0,.slice none 0 0],by rw[H1.out],by rw[H2.out];exact Made.leaf _ _ _ _ _, ?_⟩;exact(((Ha.setCell (by simp;omega) _).setCell (by simp;omega) _).setCell (by simp;omega) _).alloc _
 |true=>
  rw[Bool.true_and] at i7;have HV:=hdq (fun W (hW:Ext w1 W)=> j104 k2 n2 et A2 c2 W (hM.lies.ext hW));generalize S6:valid sigT (.mk k2 n2 et)=b at HV;have hO:rt=if b=true then .mk k2 n2 et else q16:=by rw[hrt];unfold okT;rw[S6]
  rw[S6] at gf;have H1:=hdq gf;have H2:=hdq hO;clear hO i7 S6 hrt gf;go_wp2_with fail;refine(HV.out _ hx).mono ?_;cases b with
  |true=>
   simp only[if_true];rintro e w2 ⟨rfl,e2⟩;obtain⟨q0,q1,q2,g0,g1,g2⟩:=own3 ((hx.trans e2).blk io);go_wp2_with fail;refine bodyPost_ret (v:= .tuple #[.agg #[.int .i64 k2,.int .i64 n2,.slice A2 et.length c2],.bool true]) (by simp[results,Tryz.results128,go_sem,q0,q1,q2]) rfl ⟨.agg #[.int .i64 k2,.int .i64 n2,.slice A2 et.length c2],by rw[H1.out], ?_, ?_⟩
   · rw[H2.out]
     simp only[if_true];exact Made.since (((hM.ext (hx.trans e2)).after ((((y25.refl _ _).setCell (by simp;omega) _).setCell (by simp;omega) _).setCell (by simp;omega) _))) (by omega)
   · exact(((((Ha.trans hx).trans e2).setCell (by simp;omega) _).setCell (by simp;omega) _).setCell (by simp;omega) _)
  |false=>
   simp only[Bool.false_eq_true,if_false];rintro e w2 ⟨rfl,e2⟩;obtain⟨q0,q1,q2,g0,g1,g2⟩:=own3 ((hx.trans e2).blk io);go_wp2_with fail;refine bodyPost_ret (v:= .tuple #[.agg #[.int .i64 0,.int .i64 0,.slice none 0 0],.bool false]) (by simp[results,Tryz.results128,go_sem,q0,q1,q2]) rfl ⟨.agg #[.int .i64 0,.int .i64 0,.slice none 0 0],by rw[H1.out],by rw[H2.out];exact Made.leaf _ _ _ _ _, ?_⟩;exact(((((Ha.trans hx).trans e2).setCell (by simp;omega) _).setCell (by simp;omega) _).setCell (by simp;omega) _)
end Go.Proofs.YtbnkbepgmenblaaGreat
namespace Go.Proofs.YtbnkbepgmenblaaGreat
open Go.RowKit
attribute [local go_sem ↓] Go.wp_at_zero Go.wp_at_succ
theorem q92{P:Program}(w:World){ops:Array Oper}{o:Oper}{a:Act}{K:Act->World->Prop}{Q:Exit->Act->World->Prop}{E:Prop}(hgd:o.guard=none)(s x:Operand)(t:TypeId)
 (ho:o.op= .call {callee:= .builtin .append,args:=#[s,x],argTypes:=#[t,t]})
 (e:TypeId) (i:TypeInfo) (z:Value) (ht:P.underlying t=some (.slice e)) (hi:P.info? e=some i) (hz:i.zero=some z) (hsize:i.size=3) (hby:i.bytes=40) (hzs:z.cells.size=3)
 {X:Nat->Prop} {W:World} {v:Value} {ks:List Tr} {tr:Tr} {v0 v1 v2:Value} {gx:Nat} (hs:a.eval s=v) (hG:q19 X W w e v ks) (hW:W.heap.size<=w.heap.size)
 (hT:InT w (fun b=> b < w.heap.size/\v.ownBlock≠some b/\ ¬X b) tr (.agg #[v0,v1,v2]))
 (hx:a.eval x= .slice (some ⟨gx,0,none⟩) 1 1) (hgx:w.heap[gx]? =some (.cells #[v0,v1,v2] e (0,0))) (hn:ks.length < 1099511627776)
 (h: ∀v' w',q19 X W w' e v' (ks++ [tr])->Below W.heap.size w w'->w.grownBy w' v.ownBlock->(∀g,v'.ownBlock=some g->v.ownBlock=some g\/w.heap.size<=g)->K (a.put o.dst v') w'):
 if Region.wanted o (yielded ops a.tmps)=true then Oper.wp P o a w K Q else E:=by
 have hw:Region.wanted o (yielded ops a.tmps)=true:=by simp[Region.wanted,hgd]
 rw[if_pos hw];obtain⟨xs,h1,h2⟩:=hG;obtain⟨v',w',hr,r1,r2,r3⟩:=y18 (P:=P) w W.heap.size t o.type e i z 3 40 ht hi hz hsize hby hzs (by decide) v ks.length xs h1 ⟨gx,0,none⟩ 1 1 [v0,v1,v2] rfl (q51 hgx) (q76 hT) (by unfold maxLen;omega) (by omega) hW;have hB:Below W.heap.size w w':=⟨r2.os,r2.tape,r2.output,r2.size,fun b hb=> r2.block b (by omega) (fun he=> by have:=(h1.lt b he.symm).1;omega)⟩;have hS: ∀b,b < w.heap.size/\v.ownBlock≠some b/\ ¬X b->b < w'.heap.size/\v'.ownBlock≠some b/\ ¬X b:=fun b hb=> by
  refine⟨Nat.lt_of_lt_of_le hb.1 r2.size,fun he=> ?_,hb.2.2⟩;rcases r3 b he with h4|h4
  · exact hb.2.1 h4
  · omega
 have hwk: ∀b,b < w.heap.size/\v.ownBlock≠some b/\ ¬X b->w'.heap[b]? =w.heap[b]? :=fun b hb=> r2.block b hb.1 (fun he=> hb.2.1 he.symm)
 have K5:q19 X W w' e v' (ks++ [tr]):=⟨_,by simpa using r1,RowL.snoc (hT.mono hS hwk) [] h1.1 (h2.mono hS hwk)⟩;unfold Oper.wp execOp;simp only[ho,resolve,invoke,builtin,Sem.run_bind,Sem.run_pure,Result.andThen_ok,List.map_toArray,List.map_cons,List.map_nil,hs,hx,hr];exact h v' w' K5 hB r2 r3
theorem q19.keep{X:Nat->Prop}{W w w':World}{e:TypeId}{v:Value}{ks:List Tr}(h:q19 X W w e v ks)(hs:w.heap.size<=w'.heap.size)(hk: ∀b,b < w.heap.size-> ¬X b->w'.heap[b]? =w.heap[b]?)(ho: ∀b,v.ownBlock=some b-> ¬X b):q19 X W w' e v ks:=by
 obtain⟨xs,h1,h2⟩:=h;exact⟨xs,j27 h1 (fun b hb=> hk b (h1.lt b hb).2 (ho b hb)),h2.mono (fun b hb=>⟨Nat.lt_of_lt_of_le hb.1 hs,hb.2.1,hb.2.2⟩) (fun b hb=> hk b hb.1 hb.2.2)⟩
theorem q19.liesX{X:Nat->Prop}{W w:World}{e:TypeId}{v:Value}{ks:List Tr}(h:q19 X W w e v ks)(ho: ∀b,v.ownBlock=some b-> ¬X b): ∃A cap,v= .slice A ks.length cap/\ks.length<=cap/\cap<=maxLen/\InK w (fun b=> b < w.heap.size/\ ¬X b) A ks:=by
 obtain⟨xs,h1,h2⟩:=h;rcases h1.2 with⟨rfl,h0⟩ |⟨g,cap,cur,rfl,hb,hg,ji,hcm,hcs,ht⟩
 · have:ks= []:=List.eq_nil_of_length_eq_zero h0
   subst this;exact⟨none,0,rfl,Nat.le_refl _,Nat.zero_le _,.inl rfl⟩
 · refine⟨_,cap,rfl,ji,hcm,.inr ⟨g,0,rfl,⟨j10 hg,ho g rfl⟩, ?_⟩⟩
   have h3:=RowL.tail (cur.toList.drop (ks.length*3)) (h2.mono (S':=fun b=> b < w.heap.size/\ ¬X b) (fun b hb=>⟨hb.1,hb.2.2⟩) (fun _ _=> rfl));rw[<-ht,List.take_append_drop] at h3;exact RowL.inL hg (pre:= []) h3 (by simp)
theorem q19.widen{X X':Nat->Prop}{W w:World}{e:TypeId}{v:Value}{ks:List Tr}(h:q19 X W w e v ks)(hX: ∀b,b < w.heap.size-> ¬X b-> ¬X' b):q19 X' W w e v ks:=by
 obtain⟨xs,h1,h2⟩:=h;exact⟨xs,h1,h2.mono (fun b hb=>⟨hb.1,hb.2.1,hX b hb.1 hb.2.2⟩) (fun _ _=> rfl)⟩
theorem q199:(Tryz.prog.info? 25).map (fun i=>(i.zero,i.size,i.bytes))=some (some (.agg #[.int .i64 0,.int .i64 0,.slice none 0 0]),3,40):=by kernel_rfl
theorem y31(t:Tr)(w:World)(g m:Nat)(v:Value)(j7:Lies w t v)(I1:cnt t<=900000)(hR:Rd w g m)(hm:m < 900000):Calls Tryz.prog 83 #[.pointer (some ⟨g,0,none⟩),v] w fun e w'=> ∃t' u,e= .returned u/\cnt t'<=cnt t+1/\From w.heap.size w' t' u/\Rd w' g (m+2)/\Only [g] w w':=by
 have G0:=hR.lt;obtain⟨k,n,ks⟩:=t;have HC:=hdq (fun W (hW:Ext w W)=> y160 k n ks W v (j7.ext hW) (by omega));obtain⟨A,cap,rfl,hl,hc,hK⟩:=Lies.mk_iff.1 j7;have hlc:=y19 ks;simp only[cnt] at I1;have hx0:=((xr w).alloc (.cells #[.int .i64 k,.int .i64 n,.slice A ks.length cap] 25)).alloc (.cells #[.int .i64 0,.int .i64 0,.slice none 0 0] 25);obtain⟨b30,Jh,hs0⟩:=blk2 (xr ((w.alloc (.cells #[.int .i64 k,.int .i64 n,.slice A ks.length cap] 25)).alloc (.cells #[.int .i64 0,.int .i64 0,.slice none 0 0] 25)));clear j7 hK hl hc b30;go_enter Tryz.func83,Tryz.ntmps83;go_wp2_with fail;generalize (w.alloc _).alloc _=w0 at hx0 Jh hs0;refine(HC.out _ hx0).mono ?_;rintro e w1 ⟨B,c,rfl,⟨W,hW0,uk,hW1⟩,e1⟩;have hx2:=e1.trans ((xr w1).alloc (.cells #[.int .i64 k,.int .i64 n,.slice B ks.length c] 25));obtain⟨w2,hw2⟩: ∃w2,w2=w1.alloc (.cells #[.int .i64 k,.int .i64 n,.slice B ks.length c] 25):=⟨_,rfl⟩;have Uj:w2.heap[w1.heap.size]? =some (.cells #[.int .i64 k,.int .i64 n,.slice B ks.length c] 25 (0,0)):=hw2▸heap_alloc_new w1 _;have N4:q19 (fun b=> b < W.heap.size\/b=w1.heap.size) W w2 25 (.slice B ks.length c) ks:=hw2▸(uk.widen (fun b hb hn h=> by rcases h with h|h;exact hn h;omega)).ext ((xr w1).alloc _);have hown1: ∀q,(Value.slice B ks.length c).ownBlock=some q->W.heap.size<=q/\q < w1.heap.size:=by
  obtain⟨xs,q1,-⟩:=uk;exact fun q hq=>⟨(q1.lt q hq).1,(q1.lt q hq).2⟩
 rw[<-hw2] at hx2;have xu:=hx2.blk Jh;have hs2:w1.heap.size < w2.heap.size:=j10 Uj;obtain⟨g5,D4⟩: ∃g5,g5=w1.heap.size:=⟨_,rfl⟩;have hW5:W.heap.size<=g5:=by omega
 rw[<-D4] at N4 hown1;go_wp2_with fail;rw[<-hw2];rw[<-D4] at Uj⊢;clear hw2 uk HC Jh;refine(j23 _ g m 50 (hR.ext (hx0.trans hx2)) (by omega)).mono ?_;rintro e w4 ⟨x,rfl,hx50,-,P5,N9⟩;have S8:Only [g] w w4:=(oE (hx0.trans hx2)).trans N9;have hw15:w.heap.size+1 < g5:=by have:=j10 xu;have:=e1.size;omega
 have gh:=N9.keepBlk xu (by simp;omega);have jm:=N9.keepBlk Uj (by simp;omega);have Vi: ∀q,(Value.slice B ks.length c).ownBlock=some q-> ¬(q < W.heap.size\/q=g5):=fun q hq h=> by have:=hown1 q hq;omega
 have Qn:=N4.keep N9.size (fun b hb hn=> N9.block b hb (fun hm=> hn (.inl (by rw[List.mem_singleton.1 hm];omega)))) Vi;have hgx4:g5 < w4.heap.size:=j10 jm;clear xu Uj N4 hR N9 hs2 D4;obtain⟨B',c',Ju,P9,hl2,hKs⟩:=Qn.liesX Vi;cases Ju
 have HK:=hdq (show∀w':World,w4.heap.size<=w'.heap.size->(∀b,W.heap.size<=b->b≠g5->b < w4.heap.size->w'.heap[b]? =w4.heap[b]?)->j14 (w.heap.size+2) w' B ks from fun w' h1 h2=> hKs.mono (fun b hb=>⟨by omega,by omega⟩) (fun b hb=> h2 b (by omega) (by omega) hb.1));have HG:=hdq Qn;have Bl:=hdq Vi;have HOW:=hdq hown1;clear hKs Qn Vi hown1;by_cases h0:x=0
 · subst h0
   have Z5:=(xr w4).alloc (.cells #[.int .i64 0,.int .i64 17,.int .i64 1,.int .i64 5,.int .i64 6] 3);obtain⟨z0,z1,z2,q0,q1,q2⟩:=own3 jm;go_wp2_with fail;refine(q30 _ g _ (P5.ext Z5) (by omega) _ 5 [0,17,1,5,6] (by simp) (by decide) (by simp) (q38 rfl) (by intro b o hb;simp at hb;have:=S8.size;omega)).mono ?_;rintro e w6 ⟨y,rfl,-,ak,K0⟩;have ap:=(S8.trans (oE (L:= [g]) Z5)).trans K0;have eu:=K0.keepBlk (Z5.blk gh) (by simp;omega);have Gv:=K0.keepBlk (Z5.blk jm) (by simp;omega);have Kv:w4.heap.size<=w6.heap.size:=by have:=Z5.size;have:=K0.size;omega
   have xa:=HK.out (w6.setCell ⟨g5,0,none⟩ (.int .i64 y)) (by simpa using Kv) (fun b h1 h2 h3=>(Below.heap_setCell _ _ _ _ (by show b≠g5;exact h2)).trans ((K0.block b (by have:=Z5.size;omega) (by simp;omega)).trans (Z5.heap b h3)));have Ww:=q13 eu (p:=⟨g5,0,none⟩) (by show w.heap.size+1≠g5;omega) (.int .i64 y);have Ws:=j11 Gv 0 (.int .i64 y);have kw:Rd (w6.setCell ⟨g5,0,none⟩ (.int .i64 y)) g (m+2):=ak.set (by show g < g5;omega) _;have Ax:=ap.setNew (p:=⟨g5,0,none⟩) (by show w.heap.size<=g5;omega) (.int .i64 y);obtain⟨y0,y1,y2,p0,p1,p2⟩:=own3 Gv;obtain⟨s0,s1,s2,f0,f1,f2⟩:=own3 eu;have hgx:=G0;clear z0 z1 z2 q0 q1 q2 Z5 eu Gv ap K0 ak P5 gh jm S8 G0;go_wp2_with fail;refine bodyPost_ret (v:= .agg #[.int .i64 y,.int .i64 n,.slice B ks.length c]) (by simp[results,Tryz.results83,go_sem,s0,s1,s2]) rfl ⟨.mk y n ks,_,rfl,by simp only[cnt];omega, ?_, ?_, ?_⟩
   · exact((((From.mk y n xa P9 hl2).set (by simp) _).set (by simp) _).set (by simp) _).since (by omega)
   · exact((kw.set (by show g < w.heap.size+1;omega) _).set (by show g < w.heap.size+1;omega) _).set (by show g < w.heap.size+1;omega) _
   · exact((Ax.setNew (by simp) _).setNew (by simp) _).setNew (by simp) _
 by_cases h1:x=1
 · subst h1
   have Z5:=(xr w4).alloc (.cells #[.int .i64 21,.int .i64 (-1),.int .i64 1,.int .i64 9223372036854775807] 3);obtain⟨z0,z1,z2,q0,q1,q2⟩:=own3 jm;go_wp2_with fail;refine(q30 _ g _ (P5.ext Z5) (by omega) _ 4 [21,-1,1,9223372036854775807] (by simp) (by decide) (by simp) (q38 rfl) (by intro b o hb;simp at hb;have:=S8.size;omega)).mono ?_;rintro e w6 ⟨y,rfl,-,ak,K0⟩;have ap:=(S8.trans (oE (L:= [g]) Z5)).trans K0;have eu:=K0.keepBlk (Z5.blk gh) (by simp;omega);have Gv:=K0.keepBlk (Z5.blk jm) (by simp;omega);have Kv:w4.heap.size<=w6.heap.size:=by have:=Z5.size;have:=K0.size;omega
   have xa:=HK.out (w6.setCell ⟨g5,1,none⟩ (.int .i64 y)) (by simpa using Kv) (fun b h1 h2 h3=>(Below.heap_setCell _ _ _ _ (by show b≠g5;exact h2)).trans ((K0.block b (by have:=Z5.size;omega) (by simp;omega)).trans (Z5.heap b h3)));have Ww:=q13 eu (p:=⟨g5,1,none⟩) (by show w.heap.size+1≠g5;omega) (.int .i64 y);have Ws:=j11 Gv 1 (.int .i64 y);have kw:Rd (w6.setCell ⟨g5,1,none⟩ (.int .i64 y)) g (m+2):=ak.set (by show g < g5;omega) _;have Ax:=ap.setNew (p:=⟨g5,1,none⟩) (by show w.heap.size<=g5;omega) (.int .i64 y);obtain⟨y0,y1,y2,p0,p1,p2⟩:=own3 Gv;obtain⟨s0,s1,s2,f0,f1,f2⟩:=own3 eu;have hgx:=G0;clear z0 z1 z2 q0 q1 q2 Z5 eu Gv ap K0 ak P5 gh jm S8 G0;go_wp2_with fail;refine bodyPost_ret (v:= .agg #[.int .i64 k,.int .i64 y,.slice B ks.length c]) (by simp[results,Tryz.results83,go_sem,s0,s1,s2]) rfl ⟨.mk k y ks,_,rfl,by simp only[cnt];omega, ?_, ?_, ?_⟩
   · exact((((From.mk k y xa P9 hl2).set (by simp) _).set (by simp) _).set (by simp) _).since (by omega)
   · exact((kw.set (by show g < w.heap.size+1;omega) _).set (by show g < w.heap.size+1;omega) _).set (by show g < w.heap.size+1;omega) _
   · exact((Ax.setNew (by simp) _).setNew (by simp) _).setNew (by simp) _
 by_cases h2:x=2
 · subst h2
   obtain⟨i0,hi,hz0,hz1,hz2⟩:=info_parts q199;have hv4:=q10 jm 2;have HB5:=hdq jm;have xv:=hdq gh;have hg5n:g5 < w4.heap.size:=j10 jm;have Yc:ks.length < 1099511627776:=by omega
   have Ca:w.heap.size+1 < W.heap.size:=by omega
   clear jm gh h0 h1;go_wp2_with fail
   go_region_law (first
    |(go_simp;go_at_call 77;refine(j24 _ 7 0).mono ?_;rintro e w5 ⟨rfl,e5⟩;have cm:Ext w4 w5:=((xr w4).drew).trans e5;have Ec:=cm.blk HB5.out;have gi:=q10 Ec 2;have hs55:g5 < w5.heap.size:=j10 Ec)
    |(refine q92 _ (by rfl) (.tmp 25) (.tmp 27) _ (by rfl) 25 i0 _ Tryz.underlying23 hi hz0 hz1 hz2 rfl (by rfl) (X:=fun b=> b < W.heap.size\/b=g5) (W:=W) (tr:= .mk 7 0 []) (HG.out.ext (cm.trans ((xr w5).alloc _))) (by have:=cm.size;simp;omega) (InT.mk_iff.2 ⟨none,0,rfl,Nat.le_refl _,Nat.zero_le _,.inl rfl⟩) (by rfl) (heap_alloc_new _ _) Yc ?_;intro v' w6 K4 Q6 F5 K0;obtain⟨B6,c6,rfl,r1,r2,hK6⟩:=K4.liesX (fun b hb=> by rcases K0 b hb with h|h;exact Bl.out b h;(have:=cm.size;simp at h;omega));have bh:=(F5.block g5 (by simp;omega) (fun he=> by have:=HOW.out g5 he.symm;omega)).trans (((xr w5).alloc (.cells #[.int .i64 7,.int .i64 0,.slice none 0 0] 25)).blk Ec);have Uk:=q10 bh 2;have Vo:=y13 bh 2))
   all_goals(
    have eu:=(Q6.block (w.heap.size+1) (by omega)).trans (((xr w5).alloc (.cells #[.int .i64 7,.int .i64 0,.slice none 0 0] 25)).blk (cm.blk xv.out));have ap:Only [g] w w6:=((S8.trans (oE (L:= [g]) cm)).trans (oE (L:= [g]) ((xr w5).alloc (.cells #[.int .i64 7,.int .i64 0,.slice none 0 0] 25)))).below Q6 (by omega);have ak:Rd w6 g (m+1):=((P5.ext cm).ext ((xr w5).alloc (.cells #[.int .i64 7,.int .i64 0,.slice none 0 0] 25))).under Q6 (by omega);rw[List.length_append,List.length_singleton] at r1;have HK6:=hdq hK6;have K7:(ks++ [Tr.mk 7 0 []]).length=ks.length+1:=by simp
    have ql:=hdq K7;obtain⟨y0,y1,y2,p0,p1,p2⟩:=own3 bh;obtain⟨s0,s1,s2,f0,f1,f2⟩:=own3 eu;have hgx:=G0;clear K7 hK6 Q6 F5 K0 eu bh K4 Ec gi hv4 G0;go_wp2_with fail;refine bodyPost_ret (v:= .agg #[.int .i64 k,.int .i64 n,.slice B6 (ks.length+1) c6]) (by simp[results,Tryz.results83,go_sem,s0,s1,s2]) rfl ⟨.mk k n (ks++ [.mk 7 0 []]),_,rfl,by simp only[cnt,j44,cnts];omega, ?_, ?_, ?_⟩
    · have Ak:j14 (w.heap.size+2) (w6.setCell ⟨g5,2,none⟩ (.slice B6 (ks.length+1) c6)) B6 (ks++ [.mk 7 0 []]):=HK6.out.mono (fun b hb=>⟨by omega,by simpa using hb.1⟩) (fun b hb=> Below.heap_setCell _ _ _ _ (by show b≠g5;omega))
      have Ke:=From.mk k n Ak (by rw[ql.out];exact r1) r2;rw[ql.out] at Ke;exact(((Ke.set (by simp) _).set (by simp) _).set (by simp) _).since (by omega)
    · exact(((((ak.mono (by omega)).set (by show g < g5;omega) _).set (by show g < w.heap.size+1;omega) _).set (by show g < w.heap.size+1;omega) _).set (by show g < w.heap.size+1;omega) _)
    · exact((((ap.setNew (by show w.heap.size<=g5;omega) _).setNew (by simp) _).setNew (by simp) _).setNew (by simp) _))
 by_cases h3:x=3
 · subst h3
   have hFr:From (w.heap.size+2) w4 (.mk k n ks) (.agg #[.int .i64 k,.int .i64 n,.slice B ks.length c]):=From.mk k n (HK.out w4 (Nat.le_refl _) (fun _ _ _ _=> rfl)) P9 hl2;obtain⟨y0,y1,y2,p0,p1,p2⟩:=own3 jm;clear h0 h1 h2;go_wp2_with fail;refine(y16 (w.heap.size+2) _ 8 _ 1 [.mk k n ks] (by intro h;cases h) (j14.one (g:=w4.heap.size) (e:=25) hFr (by omega) rfl) (by simp;omega) (by simp)).mono ?_;rintro e w6 ⟨u,rfl,hN,e6⟩;obtain⟨k6,n6,A6,l6,c6,rfl⟩:=hN.three;have em:=((xr w4).alloc (.cells #[.int .i64 k,.int .i64 n,.slice B ks.length c] 25)).trans e6;have ap:=S8.trans (oE (L:= [g]) em);have ak:Rd w6 g (m+2):=(P5.ext em).mono (by omega);obtain⟨s0,s1,s2,f0,f1,f2⟩:=own3 (em.blk gh);have hgx:=G0;clear y0 y1 y2 p0 p1 p2 G0 gh jm hFr P5;go_wp2_with fail;refine bodyPost_ret (v:= .agg #[.int .i64 k6,.int .i64 n6,.slice A6 l6 c6]) (by simp[results,Tryz.results83,go_sem,s0,s1,s2]) rfl ⟨.mk 8 0 [.mk k n ks],_,rfl,by simp only[cnt,cnts];omega, ?_, ?_, ?_⟩
   · exact(((hN.set (by simp) _).set (by simp) _).set (by simp) _).since (by omega)
   · exact((ak.set (by show g < w.heap.size+1;omega) _).set (by show g < w.heap.size+1;omega) _).set (by show g < w.heap.size+1;omega) _
   · exact((ap.setNew (by simp) _).setNew (by simp) _).setNew (by simp) _
 by_cases h4:x=4
 · subst h4
   cases p9:ks with
   |nil=>
    subst p9;have xa:=HK.out w4 (Nat.le_refl _) (fun _ _ _ _=> rfl);have kw:Rd w4 g (m+2):=P5.mono (by omega);clear P5 h0 h1 h2 h3;obtain⟨s0,s1,s2,f0,f1,f2⟩:=own3 gh;obtain⟨x0,x1,x2,-,-,-⟩:=own3 jm;have hgx:=G0;clear G0;go_wp2_with fail;refine bodyPost_ret (v:= .agg #[.int .i64 k,.int .i64 n,.slice B 0 c]) (by simp[results,Tryz.results83,go_sem,s0,s1,s2]) rfl ⟨.mk k n [],_,rfl,by simp only[cnt];omega, ?_, ?_, ?_⟩
    · exact((((From.mk k n xa P9 hl2).set (by simp) _).set (by simp) _).set (by simp) _).since (by omega)
    · exact((kw.set (by show g < w.heap.size+1;omega) _).set (by show g < w.heap.size+1;omega) _).set (by show g < w.heap.size+1;omega) _
    · exact((S8.setNew (by simp) _).setNew (by simp) _).setNew (by simp) _
   |cons t0 ts=>
    have lp:0 < ks.length:=by rw[p9];simp
    rw[<-p9];obtain⟨xs,q1,q2⟩:=HG.out;rcases q1.2 with⟨hv,hz⟩ |⟨r,cap',cur,hv,hbr,hr4,ji,hcm,hcs,L8⟩
    · omega
    cases hv
    have hr5:W.heap.size<=r/\r < g5:=HOW.out r rfl;have hrow:=RowL.tail (cur.toList.drop (ks.length*3)) (q2.mono (S':=fun b=> b < w4.heap.size/\r≠b/\ ¬(b < W.heap.size\/b=g5)) (fun b hb=>⟨hb.1,fun h=> hb.2.1 (by rw[h];rfl),hb.2.2⟩) (fun _ _=> rfl));rw[<-L8,List.take_append_drop] at hrow;have HRow:=hdq hrow;have hc3:0+3<=cur.size:=by rw[hcs];omega
    have HB5:=hdq jm;have xv:=hdq gh;have HR:=hdq hr4;obtain⟨y0,y1,y2,p0,p1,p2⟩:=own3 jm;obtain⟨v0,v1,v2,z0,z1,z2,fz0,fz1,fz2⟩:=cells3 (i:=0) hr4 hc3;have hg5n:g5 < w4.heap.size:=j10 jm;have P3:(0:Int) <(ks.length:Int):=by omega
    have J7:=hdq p9;have p6:cnts (ks.set 0 (.mk 1 25 []))<=cnts ks:=by
     rw[p9];have:=j103 t0;simp[cnts,cnt]
     omega
    clear jm gh h0 h1 h2 h3 hrow L8 q1 q2 hr4 p9 hcs hc3;go_wp2_with fail
    go_region_law (go_simp;go_at_call 77;refine(j24 _ 1 25).mono ?_;rintro e w5 ⟨rfl,e5⟩;have cm:Ext w4 w5:=((xr w4).drew).trans e5;have Ec:=cm.blk HB5.out;have gi:=q10 Ec 2;have hs55:g5 < w5.heap.size:=j10 Ec;have oo:=cm.blk HR.out;have k0:=cm.cell z0;have k1:=cm.cell z1;have k2:=cm.cell z2;have fk0:=y13 oo 0;have fk1:=y13 oo 1;have fk2:=y13 oo 2)
    all_goals(
     obtain⟨w7,F7⟩: ∃w7,w7=((w5.setCell ⟨r,0,none⟩ (.int .i64 1)).setCell ⟨r,1,none⟩ (.int .i64 25)).setCell ⟨r,2,none⟩ (.slice none 0 0):=⟨_,rfl⟩;have b7r:w7.heap[r]? =some (.cells (((cur.setIfInBounds 0 (.int .i64 1)).setIfInBounds 1 (.int .i64 25)).setIfInBounds 2 (.slice none 0 0)) 25 (0,0)):=by
      rw[F7];exact j11 (j11 (j11 oo 0 _) 1 _) 2 _
     have hne: ∀b,b≠r->w7.heap[b]? =w5.heap[b]? :=fun b hb=> by
      rw[F7,Below.heap_setCell _ _ _ _ hb,Below.heap_setCell _ _ _ _ hb,Below.heap_setCell _ _ _ _ hb]
     have Su:w7.heap.size=w5.heap.size:=by rw[F7];simp
     have hs45:=cm.size;have kw:Rd w7 g (m+2):=by
      rw[F7];exact((((P5.ext cm).mono (show m+1<=m+2 by omega)).set (p:=⟨r,0,none⟩) (by show g < r;omega) _).set (p:=⟨r,1,none⟩) (by show g < r;omega) _).set (p:=⟨r,2,none⟩) (by show g < r;omega) _
     have Ax:Only [g] w w7:=by
      rw[F7];exact((((S8.trans (oE (L:= [g]) cm)).setNew (p:=⟨r,0,none⟩) (by show w.heap.size<=r;omega) _).setNew (p:=⟨r,1,none⟩) (by show w.heap.size<=r;omega) _).setNew (p:=⟨r,2,none⟩) (by show w.heap.size<=r;omega) _)
     have Ws:=(hne g5 (by omega)).trans Ec;have Ww:=(hne (w.heap.size+1) (by omega)).trans (cm.blk xv.out);have En:=RowL.set (S:=fun b=> b < w7.heap.size/\w.heap.size+2<=b) (t:= .mk 1 25 []) (v0:= .int .i64 1) (v1:= .int .i64 25) (v2:= .slice none 0 0) (InT.mk_iff.2 ⟨none,0,rfl,Nat.le_refl _,Nat.zero_le _,.inl rfl⟩) 0 (HRow.out.mono (w':=w7) (S':=fun b=> b < w7.heap.size/\w.heap.size+2<=b) (fun b hb=>⟨by omega,by omega⟩) (fun b hb=>(hne b (fun h=> hb.2.1 h.symm)).trans (cm.heap b hb.1)));have Ak:j14 (w.heap.size+2) w7 (some ⟨r,0,none⟩) (ks.set 0 (.mk 1 25 [])):=by
      refine .inr ⟨r,0,rfl,⟨by omega,by rw[Su];exact j10 oo⟩, ?_⟩;have h9:=RowL.inL b7r (pre:= []) (xs:=((cur.toList.set (0*3) (.int .i64 1)).set (0*3+1) (.int .i64 25)).set (0*3+2) (.slice none 0 0)) En (by simp[Array.toList_setIfInBounds]);exact h9.mono (fun b hb=>⟨hb.2,hb.1⟩) (fun _ _=> rfl) ⟨by rw[Su];exact j10 oo,by omega⟩
     have Ke:=From.mk k n Ak (by rw[List.length_set];exact P9) hl2;rw[List.length_set] at Ke;have HF8:=hdq Ke;have Tq:cnt (.mk k n (ks.set 0 (.mk 1 25 [])))<=cnt (.mk k n ks)+1:=by simp only[cnt];omega
     have Be:=hdq Tq;obtain⟨s0,s1,s2,f0,f1,f2⟩:=own3 Ww;obtain⟨x0,x1,x2,-,-,-⟩:=own3 Ws;have hgx:=G0;clear Ke Ak En Ws Ww hne b7r Tq oo k0 k1 k2 fk0 fk1 fk2 Ec gi G0 y0 y1 y2 z0 z1 z2 fz0 fz1 fz2 p0 p1 p2
     try rw[<-F7]
     clear F7;go_wp2_with fail;refine bodyPost_ret (v:= .agg #[.int .i64 k,.int .i64 n,.slice (some ⟨r,0,none⟩) ks.length c]) (by simp[results,Tryz.results83,go_sem,s0,s1,s2]) rfl ⟨.mk k n (ks.set 0 (.mk 1 25 [])),_,rfl,Be.out, ?_, ?_, ?_⟩
     · exact(((HF8.out.set (by simp) _).set (by simp) _).set (by simp) _).since (by omega)
     · exact((kw.set (by show g < w.heap.size+1;omega) _).set (by show g < w.heap.size+1;omega) _).set (by show g < w.heap.size+1;omega) _
     · exact((Ax.setNew (by simp) _).setNew (by simp) _).setNew (by simp) _)
 have t0:(x==0)=false:=beq_eq_false_iff_ne.2 h0;have t1:(x==1)=false:=beq_eq_false_iff_ne.2 h1;have t2:(x==2)=false:=beq_eq_false_iff_ne.2 h2;have t3:(x==3)=false:=beq_eq_false_iff_ne.2 h3;have t4:(x==4)=false:=beq_eq_false_iff_ne.2 h4;have xa:=HK.out w4 (Nat.le_refl _) (fun _ _ _ _=> rfl);have kw:Rd w4 g (m+2):=P5.mono (by omega);clear P5 h0 h1 h2 h3 h4;obtain⟨s0,s1,s2,f0,f1,f2⟩:=own3 gh;obtain⟨x0,x1,x2,-,-,-⟩:=own3 jm;have hgx:=G0;clear G0;go_wp2_with fail;refine bodyPost_ret (v:= .agg #[.int .i64 k,.int .i64 n,.slice B ks.length c]) (by simp[results,Tryz.results83,go_sem,s0,s1,s2]) rfl ⟨.mk k n ks,_,rfl,by simp only[cnt];omega, ?_, ?_, ?_⟩
 · exact((((From.mk k n xa P9 hl2).set (by simp) _).set (by simp) _).set (by simp) _).since (by omega)
 · exact((kw.set (by show g < w.heap.size+1;omega) _).set (by show g < w.heap.size+1;omega) _).set (by show g < w.heap.size+1;omega) _
 · exact((S8.setNew (by simp) _).setNew (by simp) _).setNew (by simp) _
end Go.Proofs.YtbnkbepgmenblaaGreat
