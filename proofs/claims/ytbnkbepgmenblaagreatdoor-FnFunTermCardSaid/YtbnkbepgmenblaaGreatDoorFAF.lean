/-
  Lemmas towards the law, 6: Lift, Mem, Valid, OrdG, Later.
-/
import Derived.Test.YtbnkbepgmenblaaGreatDoorFAE
import Derived.BigQuiet
import Derived.Carry
import Derived.Deep.Slices
import Derived.Deep.Strs
import Derived.Laws.MakeOwn
import Derived.Laws.OwnMore
import Derived.OpenShut
set_option linter.unusedVariables false
namespace Go.Proofs.YtbnkbepgmenblaaGreatDoor
open Go.RowKit Go.ChangeShapes Go.WideShapes Go.ChangeAt Go.Deep
section
variable {H : Type} {enc : TypeId × Value → H} {P : Program}
theorem j42(hl:laidOutB P=true){W W':World}(hb:Ext W W'): ∀{ts:List TypeId} {vs:List Value} {ds:List (DataW H)} {ps:List MemPlace},
 (ts.all fun t=> P.readableRec t && decide (t < P.types.size))=true->DataW.TrodAll enc P W 0 (fun _=> true) true ts vs ds ps->(∀x∈ps,x.block < W.heap.size)->
 DataW.TrodAll enc P W' 0 (fun b=> decide (b < W.heap.size)) true ts vs ds ps
 | [],vs,ds,ps,_,h,_=> by
  obtain⟨rfl,rfl,rfl⟩:=trodAll_nil h;exact trodAll_mk0
 |t::ts,vs,ds,ps,hr,h,hlt=> by
  obtain⟨v,vs',d,ds',p,q,rfl,rfl,rfl,h0,r⟩:=trodAll_cons h;simp only[List.all_cons,Bool.and_eq_true,decide_eq_true_eq] at hr;exact trodAll_cons_mk (Below.trod hl hr.1.1 hr.1.2 h0 hb (fun x hx=> hlt x (List.mem_append_left _ hx))) (j42 hl hb (by simpa using hr.2) r (fun x hx=> hlt x (List.mem_append_right _ hx)))
theorem law_lift{C:Checked}{os:Os}{f:FuncId}{fn:Func}{s:ChangeSpec}{tb:TypeId}(own:ownKnob C.prog.godebug=none)(started:os.Started)(noInit:C.prog.inits.idxOf? f=none)(hfn:C.prog.funcs[f]? =some fn)
 (hl:laidOutB C.prog=true) (kj:(fn.params.toList.all fun t=> C.prog.readableRec t && decide (t < C.prog.types.size))=true) (hres:fn.resultTypes=#[tb]) (jv:C.prog.underlying tb=some .bool)
 (Z8:s.vars= []) (jq: ∀ds:List (DataW H),ds.length=fn.params.size->(s.fn H ds).results= [.lit (.bool true)]/\(s.fn H ds).args=ds/\(s.fn H ds).vars= [])
 (witness: ∃(w:World) (tape:Tape) (i:Input),w.os=os/\(w.forCall tape i).Shaped C.prog/\i.vars= []/\Input.okWide C.prog (w.forCall tape i) .any w.heap.size f i/\
  s.pre6 enc C.prog fn [] false (w.forCall tape i).memory i.args/\({}:Assume).holds C.prog (lone (Frame.enter C.prog f i.args .normal) [] (w.forCall tape i)))
 (walk: ∀(W:World) (base:Nat) (args:Array Value) (ds:List (DataW H)) (p:List MemPlace),
  (∀(j:Nat) t v,fn.params[j]? =some t->args[j]? =some v->Value.okWide C.prog W .any base t v)->DataW.TrodAll enc C.prog W 0 (fun _=> true) true fn.params.toList args.toList ds p->
  (∀x∈p,x.block < W.heap.size)->Calls C.prog f args W fun e W'=> e= .returned (.bool true)/\Ext W W'):
 ReturnsInHanded {} C os f .any (s.pre6 enc C.prog fn [] false) (s.post enc C.prog fn false true false false):=by
 refine returnsInHanded_of_change own started noInit hfn witness ?_;intro W base args ds gs before hval hW _ _;have hlt: ∀x∈before,x.block < W.heap.size:=fun x hx=> hW.lt x hx
 have zq:=hW;obtain⟨p,q,hA,hV,rfl,hfz,Lc⟩:=hW;rw[Z8] at hV;obtain⟨rfl,rfl⟩:=trodVars_none hV;simp only[List.append_nil] at hlt zq;refine(walk W base args ds p hval hA hlt).mono ?_;rintro e W' ⟨rfl,hE⟩;have hlen:ds.length=fn.params.size:=by
  have h1: ∀{ts:List TypeId} {vs:List Value} {es:List (DataW H)} {ps:List MemPlace},DataW.TrodAll enc C.prog W 0 (fun _=> true) true ts vs es ps->es.length=ts.length:=by
   intro ts
   induction ts with
   |nil=> intro vs es ps h;obtain⟨_,rfl,_⟩:=trodAll_nil h;rfl
   |cons t ts ih=> intro vs es ps h;obtain⟨v,vs',d,ds',p,q,rfl,rfl,rfl,h0,r⟩:=trodAll_cons h;simp[ih r]
  rw[h1 hA,Array.length_toList]
 obtain⟨e1,e2,e3⟩:=jq ds hlen;refine⟨_,rfl,ds, [],p, [],p, [],by simpa using zq, ?_, ?_, ?_,Below.frame hE _|> World.keptBut_mono (fun x hx=>⟨hx,.inr (.inl hx)⟩),fun h=> by cases h⟩
 · rw[List.append_nil,e1,hres]
   exact trodAll_mk1 (shut_bool jv _)
 · rw[List.append_nil,e2]
   exact j42 hl hE kj hA hlt
 · rw[List.append_nil,e3,Z8]
   exact rfl
end
/-! ### A tree that came in -/
section
variable {H : Type} {enc : TypeId × Value → H} {P : Program} {w : World} {spare : Nat → Bool} {held : Bool}
structure y141 (P:Program) (t s i:TypeId) (f0 f1 f2:Field):Prop where
 ht:P.underlying t=some (.struct #[f0,f1,f2])
 hs:P.underlying s=some (.slice t)
 hi:P.underlying i=some (.int .i64)
 t0:f0.type=i
 t1:f1.type=i
 t2:f2.type=s
 o0:f0.offset=0
 o1:f1.offset=1
 o2:f2.offset=2
 ci:P.cellsOf i=1
 cs:P.cellsOf s=1
 ct:P.cellsOf t=3
abbrev fld(n:String)(t:TypeId)(o:Nat)(b:Nat):Field:={name:=n,type:=t,offset:=o,embedded:=false,tag:= "",pkgPath:= "",byteOffset:=b}
theorem q47{α:Type}{p:Nat->α->Prop}: ∀n:Nat,(∀i,i < n-> ∃x,p i x)-> ∃l:List α,l.length=n/\ ∀i (h:i < l.length),p i l[i]
 |0,_=>⟨[],rfl,fun i h=> absurd h (by simp)⟩
 |n+1,h=> by
  obtain⟨l,hl,hp⟩:=q47 n (fun i hi=> h i (by omega));obtain⟨x,hx⟩:=h n (by omega);refine⟨l++ [x],by simp[hl],fun i hi=> ?_⟩;by_cases j8:i < l.length
  · rw[List.getElem_append_left j8];exact hp i j8
  · have:i=n:=by simp at hi;omega
    subst this;rw[List.getElem_append_right (by omega)]
    simpa[hl] using hx
theorem InL.build{S:Nat->Prop}{b:Nat}: ∀{ks:List Tr} {o:Nat},(∀j (h:j < ks.length),∃v0 v1 v2,w.cell? ⟨b,o+j*3,none⟩=some v0/\w.cell? ⟨b,o+j*3+1,none⟩=some v1/\w.cell? ⟨b,o+j*3+2,none⟩=some v2/\InT w S ks[j] (.agg #[v0,v1,v2]))->InL w S b o ks
 | [],_,_=> by unfold InL;trivial
 |t::ts,o,h=> by
  unfold InL;refine⟨by have h0:=h 0 (by simp);simp only[List.getElem_cons_zero,Nat.zero_mul,Nat.add_zero] at h0;exact h0,InL.build fun j hj=> ?_⟩;have:=h (j+1) (by simpa using hj);have ea:o+(j+1)*3=o+3+j*3:=by omega
  rw[ea] at this
  simpa using this
theorem j62(b o n:Nat):(⟨b,o,none⟩:Addr).add n=⟨b,o+n,none⟩:=by
 unfold Addr.add
 split <;> simp_all
theorem y89{t s i:TypeId}{f0 f1 f2:Field}(T:y141 P t s i f0 f1 f2)(fuel:Nat)
 (ih: ∀m,m < fuel-> ∀(cs:List Value) (x:DataW H×List MemPlace),DataW.trod enc P w 0 spare held m t cs=some x-> ∃(tr:Tr) (v0 v1 v2:Value),cs= [v0,v1,v2]/\Lies w tr (.agg #[v0,v1,v2]))
 (cs:List Value) (x:DataW H×List MemPlace) (h:DataW.trod enc P w 0 spare held fuel s cs=some x):
 ∃(A:Option Addr) (cap:Nat) (ks:List Tr),cs= [.slice A ks.length cap]/\ks.length<=cap/\cap<=maxLen/\y23 w A ks:=by
 rcases DataW.trod_slice T.hs h with⟨rfl,_⟩ |⟨a,len,cap,elems,rest,n,rfl,rfl,_,_,hl,hm,hlen,ve,_,_⟩
 · exact⟨none,0, [],rfl,Nat.le_refl _,Nat.zero_le _,.inl rfl⟩
 · have lq: ∀j,j < len-> ∃tr:Tr,∃v0 v1 v2,w.cell? (a.add (j*3))=some v0/\w.cell? ((a.add (j*3)).add 1)=some v1/\w.cell? ((a.add (j*3)).add 2)=some v2/\Lies w tr (.agg #[v0,v1,v2]):=by
    intro j hj;have hj':=ve j hj;rw[List.getElem?_eq_getElem (by omega)] at hj';obtain⟨cs',h1,h2⟩:=Option.bind_eq_some_iff.1 hj';obtain⟨tr,v0,v1,v2,rfl,hL⟩:=ih n (by omega) _ _ h2;obtain⟨_,_,hcell⟩:=World.cells?_some h1;rw[T.ct] at hcell;have q0:=hcell 0 (by omega);have q1:=hcell 1 (by omega);have q2:=hcell 2 (by omega);have e0: ∀y:Addr,y.add 0=y:=fun y=> by simp[Addr.add]
    rw[e0] at q0;exact⟨tr,v0,v1,v2,q0,q1,q2,hL⟩
   obtain⟨ks,l8,hp⟩:=q47 len lq;subst l8;refine⟨some a,cap,ks,rfl,hl,hm, ?_⟩;cases ks with
   |nil=> exact .inl rfl
   |cons t0 ts=>
    obtain⟨b,o,spot⟩:=a;have hlt:b < w.heap.size/\spot=none:=by
     obtain⟨v0,v1,v2,q0,_⟩:=hp 0 (by simp);simp only[Nat.zero_mul] at q0;have e0:(⟨b,o,spot⟩:Addr).add 0=⟨b,o,spot⟩:=by simp[Addr.add]
     rw[e0] at q0;exact⟨World.block_lt_of_cell? _ _ q0,by simpa using World.cell?_spot q0⟩
    obtain⟨hlt,rfl⟩:=hlt;refine .inr ⟨b,o,rfl,hlt,InL.build fun j hj=> ?_⟩;obtain⟨v0,v1,v2,q0,q1,q2,hL⟩:=hp j hj;rw[j62] at q0 q1 q2;rw[j62] at q1 q2;exact⟨v0,v1,v2,q0,q1,q2,hL⟩
theorem j49{t s i:TypeId}{f0 f1 f2:Field}(T:y141 P t s i f0 f1 f2): ∀(fuel:Nat) (cs:List Value) (x:DataW H×List MemPlace),DataW.trod enc P w 0 spare held fuel t cs=some x->
 ∃(tr:Tr) (v0 v1 v2:Value),cs= [v0,v1,v2]/\Lies w tr (.agg #[v0,v1,v2]):=by
 intro fuel
 induction fuel using Nat.strongRecOn with
 |_ fuel ih=>
  intro cs x h;obtain⟨xs,n,rfl,_,cw,hlen,hg⟩:=DataW.trod_struct T.ht h;rw[T.ct] at cw
  match cs,cw,xs,hlen with
  | [v0,v1,v2],_, [y0,y1,y2],_=>
   have g0:=hg 0 f0 rfl;have g1:=hg 1 f1 rfl;have g2:=hg 2 f2 rfl;simp[T.o0,T.o1,T.o2,T.t0,T.t1,T.t2,T.ci,T.cs] at g0 g1 g2
   obtain⟨k,hk,_,_⟩:=DataW.trod_int T.hi g0;obtain⟨m,hm,_,_⟩:=DataW.trod_int T.hi g1;simp at hk hm
   obtain⟨A,cap,ks,he,hl,hc,hK⟩:=y89 T n (fun m hm=> ih m (by omega)) _ _ g2;simp at he
   subst hk;subst hm;subst he;exact⟨.mk k m ks,_,_,_,rfl,Lies.mk hl hc hK⟩
theorem open_tree{t s i:TypeId}{f0 f1 f2:Field}(T:y141 P t s i f0 f1 f2){r:Reach}{b0:Nat}{v:Value}{d:DataW H}{p:List MemPlace}(hv:Value.okWide P w r b0 t v)(h:DataW.Trod enc P w 0 spare held t v d p): ∃tr:Tr,Lies w tr v:=by
 obtain⟨cs,rfl,hsz⟩:=okWide_struct T.ht hv;obtain⟨fuel,hf⟩:=h;obtain⟨tr,v0,v1,v2,hc,hL⟩:=j49 T fuel _ _ hf;obtain⟨l⟩:=cs;simp only[Value.cells] at hc;subst hc;exact⟨tr,hL⟩
theorem open_trees{t s i:TypeId}{f0 f1 f2:Field}(T:y141 P t s i f0 f1 f2){r:Reach}{b0:Nat}{v:Value}{d:DataW H}{p:List MemPlace}(hv:Value.okWide P w r b0 s v)(h:DataW.Trod enc P w 0 spare held s v d p):
 ∃(A:Option Addr) (cap:Nat) (ks:List Tr),v= .slice A ks.length cap/\ks.length<=cap/\cap<=maxLen/\y23 w A ks:=by
 obtain⟨a0,len,cap,rfl⟩:=okWide_slice T.hs hv;obtain⟨fuel,hf⟩:=h;obtain⟨A,cap',ks,he,r⟩:=y89 T fuel (fun m _=> j49 T m) _ _ hf;simp only[Value.cells,List.cons.injEq,and_true] at he;exact⟨A,cap',ks,he,r⟩
end
end Go.Proofs.YtbnkbepgmenblaaGreatDoor
namespace Go.Proofs.YtbnkbepgmenblaaGreatDoor
open Go.RowKit
theorem cells3{w:World}{g i:Nat}{cs:Array Value}{e:TypeId}(hb:w.heap[g]? =some (.cells cs e (0,0)))(h:i+3<=cs.size):
 ∃x0 x1 x2,w.cell? ⟨g,i,none⟩=some x0/\w.cell? ⟨g,i+1,none⟩=some x1/\w.cell? ⟨g,i+2,none⟩=some x2/\w.frozen? ⟨g,i,none⟩=false/\w.frozen? ⟨g,i+1,none⟩=false/\w.frozen? ⟨g,i+2,none⟩=false:=by
 refine⟨cs[i]'(by omega),cs[i+1]'(by omega),cs[i+2]'(by omega), ?_, ?_, ?_,q14 hb _,q14 hb _,q14 hb _⟩
 · rw[q10 hb];exact Array.getElem?_eq_getElem _
 · rw[q10 hb];exact Array.getElem?_eq_getElem _
 · rw[q10 hb];exact Array.getElem?_eq_getElem _
theorem blk1{w w1:World}{a:Obj}(h:Ext (w.alloc a) w1):w1.heap[w.heap.size]? =some a/\w.heap.size < w1.heap.size:=⟨h.newBlk,h.size_alloc⟩
theorem blk2{w w1:World}{a b:Obj}(h:Ext ((w.alloc a).alloc b) w1):w1.heap[w.heap.size]? =some a/\w1.heap[w.heap.size+1]? =some b/\w.heap.size+1 < w1.heap.size:=by
 have h1:=h.newBlk;have h2:=h.size_alloc;simp only[World.size_alloc] at h1 h2;exact⟨(blk1 h.pre).1,h1,h2⟩
theorem blk3{w w1:World}{a b c:Obj}(h:Ext (((w.alloc a).alloc b).alloc c) w1):w1.heap[w.heap.size]? =some a/\w1.heap[w.heap.size+1]? =some b/\w1.heap[w.heap.size+1+1]? =some c/\w.heap.size+1+1 < w1.heap.size:=by
 have h1:=h.newBlk;have h2:=h.size_alloc;simp only[World.size_alloc] at h1 h2;exact⟨(blk2 h.pre).1,(blk2 h.pre).2.1,h1,h2⟩
theorem blk4{w w1:World}{a b c d:Obj}(h:Ext ((((w.alloc a).alloc b).alloc c).alloc d) w1):w1.heap[w.heap.size]? =some a/\w1.heap[w.heap.size+1]? =some b/\w1.heap[w.heap.size+1+1]? =some c/\w1.heap[w.heap.size+1+1+1]? =some d/\w.heap.size+1+1+1 < w1.heap.size:=by
 have h1:=h.newBlk;have h2:=h.size_alloc;simp only[World.size_alloc] at h1 h2;exact⟨(blk3 h.pre).1,(blk3 h.pre).2.1,(blk3 h.pre).2.2.1,h1,h2⟩
theorem own3{w:World}{g:Nat}{x0 x1 x2:Value}{e:TypeId}(hb:w.heap[g]? =some (.cells #[x0,x1,x2] e (0,0))):
 w.cell? ⟨g,0,none⟩=some x0/\w.cell? ⟨g,1,none⟩=some x1/\w.cell? ⟨g,2,none⟩=some x2/\w.frozen? ⟨g,0,none⟩=false/\w.frozen? ⟨g,1,none⟩=false/\w.frozen? ⟨g,2,none⟩=false:=
 ⟨q10 hb 0,q10 hb 1,q10 hb 2,q14 hb 0,q14 hb 1,q14 hb 2⟩
def q23(B:Nat)(w w':World):Prop:=(∀b,B<=b->w'.heap[b]? =w.heap[b]?)/\w.heap.size<=w'.heap.size
theorem q23.refl(B:Nat)(w:World):q23 B w w:=⟨fun _ _=> rfl,Nat.le_refl _⟩
theorem q23.setCell{B:Nat}{a w:World}(h:q23 B a w){p:Addr}(hp:p.block < B)(u:Value):q23 B a (w.setCell p u):=
 ⟨fun b hb=>(Below.heap_setCell w p u b (by omega)).trans (h.1 b hb),by simpa using h.2⟩
theorem y63.after{W w1 w3:World}{e:TypeId}{A:Option Addr}{ks:List Tr}(h:y63 W w1 e A ks)(ha:q23 W.heap.size w1 w3):y63 W w3 e A ks:=by
 obtain⟨L,h,hf⟩:=h;exact⟨L,h.mono fun b hb=> ha.1 b (hf.2 b hb).1,hf.mono (Nat.le_refl _) ha.2⟩
theorem Made.after{W w1 w3:World}{e:TypeId}{t:Tr}{v:Value}(h:Made W w1 e t v)(ha:q23 W.heap.size w1 w3):Made W w3 e t v:=by
 obtain⟨L,h,hf⟩:=h;exact⟨L,h.mono fun b hb=> ha.1 b (hf.2 b hb).1,hf.mono (Nat.le_refl _) ha.2⟩
theorem OwnL.split{w:World}{e:TypeId}{t:Tr}{bs:List Tr}: ∀{as1:List Tr} {xs:List Value} {L:List Nat},OwnL w e xs (as1++t::bs) L->
 ∃pre v0 v1 v2 post La Lt Lb,xs=pre++v0::v1::v2::post/\pre.length=as1.length*3/\OwnL w e pre as1 La/\OwnT w e t (.agg #[v0,v1,v2]) Lt/\OwnL w e post bs Lb/\L=La++(Lt++Lb)
 | [],xs,L,h=> by
  obtain⟨v0,v1,v2,rest,L1,L2,rfl,h1,h2,rfl⟩:=OwnL.cons_iff.1 h;exact⟨[],v0,v1,v2,rest, [],L1,L2,rfl,rfl,OwnL.nil,h1,h2,rfl⟩
 |a::as1,xs,L,h=> by
  obtain⟨u0,u1,u2,rest,L1,L2,rfl,h1,h2,rfl⟩:=OwnL.cons_iff.1 h;obtain⟨pre,v0,v1,v2,post,La,Lt,Lb,rfl,hp,ha,ht,hb,rfl⟩:=OwnL.split (as1:=as1) h2;exact⟨u0::u1::u2::pre,v0,v1,v2,post,L1++La,Lt,Lb,rfl,by simp[hp];omega,OwnL.cons_iff.2 ⟨u0,u1,u2,pre,L1,La,rfl,h1,ha,rfl⟩,ht,hb,by simp⟩
mutual
theorem OwnT.lt{w:World}{e:TypeId}: ∀{t:Tr} {v:Value} {L:List Nat},OwnT w e t v L-> ∀b,b∈L->b < w.heap.size
 | .mk k n ks,v,L,h,b,hb=> by
  obtain⟨A,cap,_,_,_,h3⟩:=OwnT.mk_iff.1 h;rcases h3 with⟨_,rfl⟩ |⟨g,cs,L',_,hg,rfl,hl⟩
  · cases hb
  · rcases List.mem_cons.1 hb with rfl|hb
    · exact j10 hg
    · exact OwnL.lt hl b hb
theorem OwnL.lt{w:World}{e:TypeId}: ∀{xs:List Value} {ks:List Tr} {L:List Nat},OwnL w e xs ks L-> ∀b,b∈L->b < w.heap.size
 |_, [],L,h,b,hb=> by
  unfold OwnL at h;subst h;cases hb
 |xs,t::ts,L,h,b,hb=> by
  obtain⟨u0,u1,u2,rest,L1,L2,rfl,h1,h2,rfl⟩:=OwnL.cons_iff.1 h;rcases List.mem_append.1 hb with hb|hb
  · exact OwnT.lt h1 b hb
  · exact OwnL.lt h2 b hb
end
structure Only (L:List Nat) (w w':World):Prop where
 os:w'.os=w.os
 tape:w'.tape=w.tape
 output:w'.output=w.output
 size:w.heap.size<=w'.heap.size
 block: ∀b,b < w.heap.size-> ¬b∈L->w'.heap[b]? =w.heap[b]?
theorem Only.refl(L:List Nat)(w:World):Only L w w:=⟨rfl,rfl,rfl,Nat.le_refl _,fun _ _ _=> rfl⟩
theorem Only.trans{L:List Nat}{a b c:World}(h:Only L a b)(k:Only L b c):Only L a c:=
 ⟨k.os.trans h.os,k.tape.trans h.tape,k.output.trans h.output,Nat.le_trans h.size k.size,fun i hi hn=>(k.block i (Nat.lt_of_lt_of_le hi h.size) hn).trans (h.block i hi hn)⟩
theorem Only.mono{L M:List Nat}{a b:World}(h:Only L a b)(hs: ∀x,x∈L->x∈M):Only M a b:=⟨h.os,h.tape,h.output,h.size,fun i hi hn=> h.block i hi (fun hm=> hn (hs i hm))⟩
theorem Only.setCell{L:List Nat}{a w:World}(h:Only L a w){p:Addr}(hp:p.block∈L)(u:Value):Only L a (w.setCell p u):=
 ⟨h.os,h.tape,h.output,by simpa using h.size,fun i hi hn=>(Below.heap_setCell w p u i (fun e=> hn (e▸hp))).trans (h.block i hi hn)⟩
theorem oE{L:List Nat}{a b:World}(h:Ext a b):Only L a b:=⟨h.os,h.tape,h.output,h.size,fun i hi _=> h.heap i hi⟩
theorem Only.alloc{L:List Nat}{a b:World}(h:Only L a b)(o:Obj):Only L a (b.alloc o):=h.trans (oE ((xr b).alloc o))
theorem Only.ext{L:List Nat}{a w w':World}(h:Only L w w')(he:Ext a w)(hL: ∀b,b∈L->a.heap.size<=b):Ext a w':=
 ⟨h.os.trans he.os,h.tape.trans he.tape,h.output.trans he.output,Nat.le_trans he.size h.size,fun i hi=>(h.block i (Nat.lt_of_lt_of_le hi he.size) (fun hm=> absurd (hL i hm) (by omega))).trans (he.heap i hi)⟩
end Go.Proofs.YtbnkbepgmenblaaGreatDoor
namespace Go.Proofs.YtbnkbepgmenblaaGreatDoor
def inR(n lo hi:Int):Bool:=decide (lo<=n)&& decide (n<=hi)
theorem j31{n lo hi:Int}:inR n lo hi=true↔lo<=n/\n<=hi:=by simp[inR]
theorem y49{n lo hi:Int}:inR n lo hi=false↔n < lo\/hi < n:=by
 rw[Bool.eq_false_iff,Ne,j31];omega
structure Sig where
 ops:Int->Int
 most:Int->Int
def opsT(k:Int):Int:=if k=1 then 0 else if k=2 then 0 else if k=3 then 2 else if k=4 then 2 else if k=5 then 2 else if k=6 then 0 else if k=7 then 0 else if k=8 then 1 else if k=9 then 4 else if k=10 then 3 else if k=11 then 1 else if k=12 then 3 else if k=13 then 2 else if k=14 then 3 else if k=15 then 1 else if k=16 then 1 else -1
def j15(k:Int):Int:=if k=1 then 20 else if k=2 then 3 else 0
def sigT:Sig:=⟨opsT,j15⟩
def y79(g:Sig)(k n:Int)(len:Nat):Bool:=decide (g.ops k=(len:Int))&& inR n 0 (g.most k)
mutual
def shape(g:Sig):Tr->Int->Bool
 | .mk k n ks,depth=> decide (1<=depth)&&(y79 g k n ks.length && q21 g ks (depth - 1))
def q21(g:Sig):List Tr->Int->Bool
 | [],_=> true
 |t::ts,depth=> shape g t depth && q21 g ts depth
end
def valid(g:Sig)(t:Tr):Bool:=shape g t 30 && decide (cnt t<=400)
mutual
def cntM:Tr->Int->Int
 | .mk _ _ ks,most=> q64 ks most 1
def q64:List Tr->Int->Int->Int
 | [],_,n=> n
 |t::ts,most,n=> if n<=most then q64 ts most (n+cntM t (most - n)) else n
end
mutual
theorem y110: ∀(t:Tr) (most:Int),0<=most->1<=cntM t most/\cntM t most<=most+1/\(cntM t most<=most↔(cnt t:Int)<=most)/\(cntM t most<=most->cntM t most=cnt t)
 | .mk _ _ ks,most,h=> by
  have:=q142 ks most 1 (by omega) (by omega);simp only[cntM,cnt];omega
theorem q142: ∀(ts:List Tr) (most n:Int),1<=n->n<=most+1->n<=q64 ts most n/\q64 ts most n<=most+1/\(q64 ts most n<=most↔n+cnts ts<=most)/\(q64 ts most n<=most->q64 ts most n=n+cnts ts)
 | [],most,n,h,h'=> by simp only[q64,cnts];omega
 |t::ts,most,n,h,h'=> by
  simp only[q64,cnts];by_cases hn:n<=most
  · rw[if_pos hn]
    have h1:=y110 t (most - n) (by omega);have h2:=q142 ts most (n+cntM t (most - n)) (by omega) (by omega);have h3:=j133 t;omega
  · rw[if_neg hn]
    have h3:=j133 t;omega
end
theorem q194{g:Sig}{t:Tr}:valid g t=(shape g t 30 && decide (cntM t 400<=400)):=by
 have:=(y110 t 400 (by omega)).2.2.1;unfold valid
 congr 1
 rw[Bool.eq_iff_iff,decide_eq_true_iff,decide_eq_true_iff];omega
mutual
def y31(g:Sig):Tr->Int->Int->Bool×Int
 | .mk k n ks,deep,c=> if 400 < c+1 then(false,c+1) else if 30 < deep then(false,c+1) else if g.ops k=(ks.length:Int) then(if inR n 0 (g.most k)=true then j30 g ks (deep+1) (c+1) else(false,c+1)) else(false,c+1)
def j30(g:Sig):List Tr->Int->Int->Bool×Int
 | [],_,c=>(true,c)
 |t::ts,deep,c=> if(y31 g t deep c).1=true then j30 g ts deep (y31 g t deep c).2 else(false,(y31 g t deep c).2)
end
mutual
theorem y82(g:Sig): ∀(t:Tr) (deep c:Int),0<=c->c<=400->(y31 g t deep c).1=(shape g t (31 - deep)&& decide (c+cnt t<=400))/\((y31 g t deep c).1=true->(y31 g t deep c).2=c+cnt t)/\c<=(y31 g t deep c).2/\(y31 g t deep c).2<=401/\((y31 g t deep c).1=true->(y31 g t deep c).2<=400)
 | .mk k n ks,deep,c,h,h'=> by
  have hc:(cnt (.mk k n ks):Int)=cnts ks+1:=by simp[cnt]
  simp only[y31,shape,y79];by_cases h1:400 < c+1
  · rw[if_pos h1]
    refine⟨?_,by simp,by simp;omega,by simp;omega,by simp⟩
    symm
    rw[Bool.and_eq_false_iff];exact .inr (decide_eq_false (by omega))
  · rw[if_neg h1]
    by_cases h2:30 < deep
    · rw[if_pos h2]
      refine⟨?_,by simp,by simp;omega,by simp;omega,by simp⟩
      symm
      rw[Bool.and_eq_false_iff,Bool.and_eq_false_iff];exact .inl (.inl (decide_eq_false (by omega)))
    · rw[if_neg h2]
      by_cases h3:g.ops k=(ks.length:Int)
      · rw[if_pos h3]
        by_cases h4:inR n 0 (g.most k)=true
        · rw[if_pos h4]
          obtain⟨e1,e2,e3,e4,e5⟩:=q97 g ks (deep+1) (c+1) (by omega) (by omega);refine⟨?_,fun hh=> by rw[e2 hh];omega,by omega,e4,e5⟩;rw[e1,decide_eq_true h3,h4];have ed:31 -(deep+1)=31 - deep - 1:=by omega
          have d1:decide (1<=31 - deep)=true:=decide_eq_true (by omega);rw[ed,d1];simp only[Bool.true_and]
          congr 1
          exact decide_eq_decide.2 (by omega)
        · rw[if_neg h4]
          refine⟨?_,by simp,by simp;omega,by simp;omega,by simp⟩;simp[h4]
      · rw[if_neg h3]
        refine⟨?_,by simp,by simp;omega,by simp;omega,by simp⟩;simp[h3]
theorem q97(g:Sig): ∀(ts:List Tr) (deep c:Int),0<=c->c<=400->(j30 g ts deep c).1=(q21 g ts (31 - deep)&& decide (c+cnts ts<=400))/\((j30 g ts deep c).1=true->(j30 g ts deep c).2=c+cnts ts)/\c<=(j30 g ts deep c).2/\(j30 g ts deep c).2<=401/\((j30 g ts deep c).1=true->(j30 g ts deep c).2<=400)
 | [],deep,c,h,h'=> by
  have hc:(cnts []:Int)=0:=by simp[cnts]
  have hd:decide (c+(cnts []:Int)<=400)=true:=decide_eq_true (by omega);simp only[j30,q21];refine⟨by rw[hd];rfl,by omega,by omega,by omega,by omega⟩
 |t::ts,deep,c,h,h'=> by
  have hc:(cnts (t::ts):Int)=cnt t+cnts ts:=by simp[cnts]
  simp only[j30,q21];obtain⟨e1,e2,e3,e4,e5⟩:=y82 g t deep c h h';by_cases hs:(y31 g t deep c).1=true
  · rw[if_pos hs]
    have e2':=e2 hs;have e5':=e5 hs;obtain⟨d1,d2,d3,d4,d5⟩:=q97 g ts deep (y31 g t deep c).2 (by omega) e5';refine⟨?_,fun hh=> by rw[d2 hh,e2'];omega,by omega,d4,d5⟩;rw[d1];rw[hs] at e1;have oy:=e1.symm;rw[Bool.and_eq_true] at oy;rw[oy.1];simp only[Bool.true_and]
    congr 1
    exact decide_eq_decide.2 (by omega)
  · rw[if_neg hs]
    refine⟨?_,by simp,e3,e4,by simp⟩;have hf:(y31 g t deep c).1=false:=by simpa using hs
    rw[hf] at e1;have oy:=e1.symm;rw[Bool.and_eq_false_iff] at oy
    symm
    rw[Bool.and_eq_false_iff,Bool.and_eq_false_iff];rcases oy with oy|oy
    · exact .inl (.inl oy)
    · have:=of_decide_eq_false oy
      exact .inr (decide_eq_false (by omega))
end
theorem y135(g:Sig)(t:Tr):(y31 g t 1 0).1=valid g t/\(valid g t=true->(y31 g t 1 0).2=cnt t):=by
 obtain⟨e1,e2,_⟩:=y82 g t 1 0 (by omega) (by omega);have h:(y31 g t 1 0).1=valid g t:=by
  rw[e1];unfold valid;have e:(31:Int) - 1=30:=rfl;rw[e]
  congr 1
  exact decide_eq_decide.2 (by omega)
 exact⟨h,fun hv=> by rw[e2 (h.trans hv)];omega⟩
end Go.Proofs.YtbnkbepgmenblaaGreatDoor
namespace Go.Proofs.YtbnkbepgmenblaaGreatDoor.OrdG
open Go Go.Proofs.YtbnkbepgmenblaaGreatDoor.Ord
section
variable {Γ : Type} (P : Program) (ops : Array Oper) (Q : Exit → Act → World → Prop) (l0 : Array Bool) (m : Nat) (E : World × Γ → World × Γ → Prop) (G : Nat → Value → World × Γ → Prop) (a0 : Act) (w0 : World × Γ)
def q191(i:Nat)(o:Oper):Prop:=
 ∀a w z,E w0 (w,z)->(∀t,isDst ops l0 m t=false->a.eval (.tmp t)=a0.eval (.tmp t))->(∀j d,depO ops l0 i j d=true->G j (a.eval (.tmp d)) (w,z))->
  wpOp P ops Q i (fun a' w'=> ∃u z',a'=a.put o.dst u/\E (w,z) (w',z')/\G i u (w',z')) a w
def StepsO:Nat->List Oper->Prop
 |_, []=> True
 |i,o::os=>(isOn l0 i=true\/q191 P ops Q l0 m E G a0 w0 i o)/\StepsO (i+1) os
end
section
variable {Γ : Type} {P : Program} {ops : Array Oper} {Q : Exit → Act → World → Prop} {l0 : Array Bool} {m : Nat} {E : World × Γ → World × Γ → Prop} {G : Nat → Value → World × Γ → Prop} {a0 : Act} {w0 : World × Γ}
theorem StepsO.get{l:List Oper}: ∀{i j:Nat} {o:Oper},StepsO P ops Q l0 m E G a0 w0 i l->l[j]? =some o->isOn l0 (i+j)=true\/q191 P ops Q l0 m E G a0 w0 (i+j) o:=by
 induction l with
 |nil=> intro i j o h hj;simp at hj
 |cons x l ih=>
  intro i j o h hj;cases j with
  |zero=>
   simp only[List.getElem?_cons_zero,Option.some.injEq] at hj;subst hj;exact h.1
  |succ j=>
   have:=ih (j:=j) h.2 (by simpa using hj)
   rwa [show i+1+j=i+(j+1) by omega] at this
theorem wpAnyH_order{S:World->Prop}{N fuel fT:Nat}{lT:Array Bool}(F5:okO ops l0 m N=true)(hN:a0.tmps.size=N)(hf:fuel=opnO l0 ops.size)(nv:doneO l0 m=lT)(qi:opnO lT ops.size=fT)
 (V8:E w0 w0) (hE: ∀u v w,E u v->E v w->E u w) (hG: ∀i v w w',G i v w->E w w'->G i v w') (hS: ∀w z,E w0 (w,z)->S w)
 (steps:StepsO P ops Q l0 m E G a0 w0 0 (ops.toList.take m))
 (fin: ∀(v:Nat->Value) w z,E w0 (w,z)->(∀j,j < m->isOn l0 j=false->G j (v j) (w,z))->wpAnyH P .any ops Q S fT lT (putN ops v (fun j=> !isOn l0 j) a0 m) w):
 wpAnyH P .any ops Q S fuel l0 a0 w0.1:=by
 subst nv;subst qi;have Q6:=F5;unfold okO at Q6;simp only[Bool.and_eq_true,decide_eq_true_eq,List.all_eq_true,List.mem_range,Bool.or_eq_true,Bool.not_eq_true'] at Q6;obtain⟨⟨⟨⟨-,iy⟩,hlowb⟩,hm⟩,hlsz⟩:=Q6;have U8: ∀i,i < ops.size-> ∀k∈q36 ops i,k < i:=fun i hi k hk=>(hlowb i hi k hk).1
 have jd: ∀i,isOn l0 i=true-> ∀k∈q36 ops i,isOn l0 k=true:=fun i hl k hk=> by
  by_cases hi:i < ops.size
  · exact(hlowb i hi k hk).2.resolve_left (by rw[hl];decide)
  · unfold q36 at hk
    rw[show ops[i]? =none from Array.getElem?_eq_none (by omega)] at hk;simp at hk
 have Am: ∀i,m<=i->i < ops.size->isOn l0 i=false-> ∀j,j < m->isOn l0 j=false->j95 ops ops.size i j=true:=fun i h1 h2 hi j hj hl=> by
  have:=iy (i - m) (by omega);rw[show m+(i - m)=i by omega] at this;have:=this.resolve_left (by rw[hi];decide) j hj;exact this.resolve_left (by rw[hl];decide)
 have D2: ∀listed:Array Bool,∀j,(isOn listed j && !isOn l0 j)=true->isOn l0 j=false:=fun listed j h=> by
  simp only[Bool.and_eq_true,Bool.not_eq_true'] at h;exact h.2
 have main: ∀(fuel:Nat) (listed:Array Bool) (a:Act) (w:World) (z:Γ) (v:Nat->Value),listed.size=ops.size->(∀i,m<=i->isOn listed i=isOn l0 i)->(∀i,isOn l0 i=true->isOn listed i=true)->
  (∀i,isOn listed i=true-> ∀k∈q36 ops i,isOn listed k=true)->a=putN ops v (fun j=> isOn listed j && !isOn l0 j) a0 m->(∀j,j < m->isOn listed j=true->isOn l0 j=false->G j (v j) (w,z))->E w0 (w,z)->
  fuel=opnO listed ops.size->wpAnyH P .any ops Q S fuel listed a w:=by
  intro fuel;have done: ∀(fuel:Nat) (listed:Array Bool) (a:Act) (w:World) (z:Γ) (v:Nat->Value),listed.size=ops.size->(∀i,m<=i->isOn listed i=isOn l0 i)->a=putN ops v (fun j=> isOn listed j && !isOn l0 j) a0 m->(∀j,j < m->isOn listed j=true->isOn l0 j=false->G j (v j) (w,z))->E w0 (w,z)->
   fuel=opnO listed ops.size->(∀j,j < m->isOn listed j=true)->wpAnyH P .any ops Q S fuel listed a w:=by
   intro fuel listed a w z v hsz h1 ha hg he hf hall;have hl:listed=doneO l0 m:=by
    apply Array.ext
    · simp[doneO,hsz,hlsz]
    · intro i W4 dv
      have e1:isOn listed i=listed[i]:=by simp[isOn,Array.getD_eq_getD_getElem?,W4]
      have e2:(doneO l0 m)[i]=(decide (i < m) ||isOn l0 i):=by simp[doneO]
      rw[<-e1,e2];by_cases hi:i < m
      · rw[hall i hi];simp[hi]
      · rw[h1 i (by omega)];simp[hi]
   subst hl;subst ha;subst hf;rw[y24 (v':=v) (s':=fun j=> !isOn l0 j) a0 (fun j hj=>⟨by rw[hall j hj,Bool.true_and],fun _=> rfl⟩)];exact fin v w z he (fun j hj hl=> hg j hj (hall j hj) hl)
  induction fuel with
  |zero=>
   intro listed a w z v hsz h1 dt h2 ha hg he hf;refine done 0 listed a w z v hsz h1 ha hg he hf fun j hj=> ?_
   have: ∀n,opnO listed n=0-> ∀j,j < n->isOn listed j=true:=by
    intro n
    induction n with
    |zero=> intro _ j hj;omega
    |succ n ih=>
     intro h j hj;unfold opnO at h;by_cases e:j=n
     · subst e
       split at h
       · assumption
       · omega
     · exact ih (by omega) j (by omega)
   exact this ops.size hf.symm j (by omega)
  |succ fuel ih=>
   intro listed a w z v hsz h1 dt h2 ha hg he hf;by_cases hall: ∀j,j < m->isOn listed j=true
   · exact done _ listed a w z v hsz h1 ha hg he hf hall
   · obtain⟨j0,nj,S9,ib⟩:=j209 (p:=isOn listed) (n:=m) (by
      apply Classical.byContradiction
      intro h;exact hall fun j hj=> by
       cases hp:isOn listed j with
       |true=> rfl
       |false=> exact absurd ⟨j,hj,hp⟩ h)
     have gt: ∀i,i < ops.size->listed.getD i true=isOn listed i:=fun i hi=> by
      simp[isOn,Array.getD_eq_getD_getElem?,show i < listed.size by omega]
     refine⟨fun h0=> ?_,fun i hi=> ?_⟩
     · have hr:j0∈Region.ready .any ops listed:=y109 (by omega) (by rw[gt _ (by omega)];exact S9) (fun k hk=> ib k (U8 j0 (by omega) k hk))
       rw[h0] at hr;cases hr
     · obtain⟨r1,⟨o,ho⟩,r3⟩:=q68 hi
       have j8:i < ops.size:=(Array.getElem?_eq_some_iff.1 ho).1;have K5:isOn listed i=false:=by rw[<-gt i j8];exact r1
       have ei:isOn l0 i=false:=by
        cases hp:isOn l0 i with
        |false=> rfl
        |true=> rw[dt i hp] at K5;cases K5
       have ki:isOn l0 j0=false:=by
        cases hp:isOn l0 j0 with
        |false=> rfl
        |true=> rw[dt j0 hp] at S9;cases S9
       have rq:i < m:=by
        apply Classical.byContradiction
        intro rk;have:=j36 (l:=isOn listed) h2 ops.size i j0 r3 (Am i (by omega) j8 ei j0 nj ki);rw[S9] at this;cases this
       have hst:=StepsO.get (j:=i) steps (by rw[List.getElem?_take,if_pos rq];simpa using ho);rw[Nat.zero_add] at hst;have hst:=hst.resolve_left (by rw[ei];decide);have hd:(dstOf ops i)=o.dst:=by unfold dstOf;rw[ho];rfl
       have Bn:(isOn listed i && !isOn l0 i)=false:=by rw[K5];rfl
       refine wpOp_mono ?_ (hst a w z he ?_ ?_)
       · rintro a' w' ⟨u,z',rfl,kp,qz⟩
         have C0: ∀j,isOn (listed.setIfInBounds i true) j=if j=i then true else isOn listed j:=fun j=> by
          unfold isOn;by_cases e:j=i
          · subst e
            rw[if_pos rfl];simp[Array.getD_eq_getD_getElem?,show j < listed.size by omega]
          · rw[if_neg e]
            simp[Array.getD_eq_getD_getElem?,Array.getElem?_setIfInBounds_ne (Ne.symm e)]
         refine⟨hS _ _ (hE _ _ _ he kp),ih (listed.setIfInBounds i true) _ w' z' (fun j=> if j=i then u else v j) (by simpa using hsz) ?_ ?_ ?_ ?_ ?_ (hE _ _ _ he kp) ?_⟩
         · intro j hj
           rw[C0,if_neg (by omega)];exact h1 j hj
         · intro j hj
           rw[C0]
           split
           · rfl
           · exact dt j hj
         · intro j hj k hk
           rw[C0] at hj⊢;by_cases e:k=i
           · rw[if_pos e]
           · rw[if_neg e]
             by_cases e2:j=i
             · subst e2;exact r3 k hk
             · rw[if_neg e2] at hj
               exact h2 j hj k hk
         · rw[ha,<-hd,<-q45 F5 (s:=fun j=> isOn listed j && !isOn l0 j) a0 (D2 listed) Bn ei u rq (Nat.le_refl _)]
           refine y24 a0 (fun j hj=>⟨?_,fun _=> rfl⟩);simp only[C0];by_cases e:j=i
           · rw[if_pos e,if_pos e,e,ei];rfl
           · rw[if_neg e,if_neg e]
         · intro j hj hl N4
           by_cases e:j=i
           · simp only[if_pos e];rw[e];exact qz
           · simp only[if_neg e]
             rw[C0,if_neg e] at hl;exact hG _ _ _ _ (hg j hj hl N4) kp
         · have:=y95 (l:=listed) (l':=listed.setIfInBounds i true) (i:=i) K5 (by rw[C0,if_pos rfl]) (fun j hj=> by rw[C0,if_neg hj]) (n:=ops.size)
           rw[if_pos j8] at this;omega
       · intro t ht
         rw[ha,q58];intro j hj hs e;unfold isDst at ht;rw[List.any_eq_false] at ht;refine ht j (List.mem_range.2 hj) ?_;rw[D2 listed j hs,e];simp
       · intro j d J9
         unfold depO at J9;simp only[Bool.and_eq_true,beq_iff_eq,List.contains_iff_mem,Bool.not_eq_true'] at J9;have N4:=r3 j J9.1.1;have Kp:=U8 i j8 j J9.1.1;rw[ha,y46 F5 v _ (D2 listed) a0 hN J9.1.2 (by rw[N4,J9.2];rfl) (by omega) (Nat.le_refl _)];exact hg j (by omega) N4 J9.2
 refine main fuel l0 a0 w0.1 w0.2 (fun _=> undef) hlsz (fun _ _=> rfl) (fun _ h=> h) jd ?_ ?_ V8 hf
 · have: ∀n,putN ops (fun _=> undef) (fun j=> isOn l0 j && !isOn l0 j) a0 n=a0:=fun n=> by
    induction n with
    |zero=> rfl
    |succ n ih=>
     unfold putN;rw[if_neg,ih];simp
   exact(this m).symm
 · intro j hj hl hl2
   rw[hl] at hl2;cases hl2
end
end Go.Proofs.YtbnkbepgmenblaaGreatDoor.OrdG
namespace Go.Proofs.YtbnkbepgmenblaaGreatDoor
open Go.RowKit
def At(w:World)(p:World->Prop):Prop:= ∀w',Ext w w'->p w'
theorem At.now{w:World}{p:World->Prop}(h:At w p):p w:=h w (xr w)
theorem At.step{w w':World}{p:World->Prop}(h:At w p)(he:Ext w w'):At w' p:=fun x hx=> h x (he.trans hx)
theorem At.and{w:World}{p q:World->Prop}(h:At w p)(k:At w q):At w (fun w'=> p w'/\q w'):=fun x hx=>⟨h x hx,k x hx⟩
structure j26 (W:World) where
 world:World
 ext:Ext W world
instance (W:World):Nonempty (j26 W):=⟨⟨W,xr W⟩⟩
theorem y16{P:Program}{id:Nat}{Q:Exit->Act->World->Prop}{a:Act}{W:World}{l:List Oper}(hm:P.follows .mixedOrders=true)(hB:Region.lexB .any l.toArray=true)
 (h:wpQuiet P l.toArray (fun w'=> ∃x:j26 W,w'=x.world) (fun a'=> ∀w',(∃x:j26 W,w'=x.world)->Q .normal a' w') l a):(Code.region id l.toArray true).wp P Q a W:=
 wp_region_quiet (C:=fun w'=> ∃x:j26 W,w'=x.world) hm hB ⟨⟨_,(xr W).drew⟩,rfl⟩ (by simpa using h)
theorem q69{P:Program}{f:FuncId}{args:Array Value}{W:World}{x:j26 W}{v:Value}(h:Calls P f args x.world fun e w'=> e= .returned v/\Ext x.world w'):
 Calls P f args x.world fun e w''=> e= .returned v/\ ∃y:j26 W,w''=y.world:=
 h.mono fun e w' ⟨he,hw⟩=>⟨he,⟨w',x.ext.trans hw⟩,rfl⟩
theorem j13{P:Program}{f:FuncId}{args:Array Value}{W:World}{x:j26 W}{v:Value}(h:Calls P f args x.world fun e w'=> e= .returned v/\x.world=w'):
 Calls P f args x.world fun e w''=> e= .returned v/\ ∃y:j26 W,w''=y.world:=
 h.mono fun e w' ⟨he,hw⟩=>⟨he,x,hw.symm⟩
theorem j26.own3{W:World}{g:Nat}{x0 x1 x2:Value}{e:TypeId}(hb:W.heap[g]? =some (.cells #[x0,x1,x2] e (0,0))):
 (∀y:j26 W,y.world.cell? ⟨g,0,none⟩=some x0)/\(∀y:j26 W,y.world.cell? ⟨g,1,none⟩=some x1)/\(∀y:j26 W,y.world.cell? ⟨g,2,none⟩=some x2):=
 ⟨fun y=> y.ext.cell (q10 hb 0),fun y=> y.ext.cell (q10 hb 1),fun y=> y.ext.cell (q10 hb 2)⟩
theorem j26.cell{W:World}{b o:Nat}{v:Value}(h:W.cell? ⟨b,o,none⟩=some v)(y:j26 W):y.world.cell? ⟨b,o,none⟩=some v:=y.ext.cell h
end Go.Proofs.YtbnkbepgmenblaaGreatDoor
