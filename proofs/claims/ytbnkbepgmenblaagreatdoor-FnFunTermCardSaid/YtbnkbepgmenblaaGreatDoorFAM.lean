/-
  Lemmas towards the law, 13: Tell.
-/
import Derived.Test.YtbnkbepgmenblaaGreatDoorFAJ
set_option linter.unusedVariables false
set_option maxHeartbeats 1000000
set_option maxRecDepth 100000
namespace Go.Proofs.YtbnkbepgmenblaaGreatDoor
open Go.RowKit
theorem y111: ∀{k:Int} {ts:List Tr} {i j:Nat} {b x:Int} (h:j < ts.length),x∈fvs ts[j] (b+und k (i+j))->x∈fvss k ts i b
 |k,t::ts,i,0,b,x,h,hx=> by unfold fvss;exact List.mem_append.2 (.inl hx)
 |k,t::ts,i,j+1,b,x,h,hx=> by
  unfold fvss;refine List.mem_append.2 (.inr (y111 (j:=j) (by simpa using h) ?_));rw[show i+1+j=i+(j+1) by omega];exact hx
def q189(a:World)(p1:Nat)(L:List Nat){σ:Type}(Inv:World->σ->Prop)(f:σ->Int->σ)(p:Int->Prop):Prop:=
 ∀(w:World) (s:σ) (i:Int),Ext a w->Inv w s->p i->Calls Tryz.prog 42 #[.int .i64 i,.pointer (some ⟨p1,0,none⟩)] w fun e w'=> e= .returned (.tuple #[])/\Only L w w'/\Inv w' (f s i)
def j199(t:Tr):Prop:= ∀(a w:World) (v:Value) (b d:Int) (p1:Nat) (L:List Nat) (σ:Type) (Inv:World->σ->Prop) (f:σ->Int->σ) (p:Int->Prop) (s:σ),
 shape sigT t d=true->Lies a t v->Ext a w->(∀x,x∈L->a.heap.size<=x/\x < w.heap.size)->0<=b->b+cnt t<=1000000->
 q189 a p1 L Inv f p->(∀i,i∈fvs t b->p i)->(∀w1 w2 s,Inv w1 s->Ext w1 w2->Inv w2 s)->Inv w s->
 Calls Tryz.prog 41 #[v,.int .i64 b,.func (.func 42) #[] #[.pointer (some ⟨p1,0,none⟩)]] w fun e w'=> e= .returned (.tuple #[])/\Only L w w'/\Inv w' ((fvs t b).foldl f s)
theorem j138: ∀t:Tr,j199 t:=Tr.ind fun k n ks hk=> by
 intro a w v b d p1 L σ Inv f p s hsh j8 ha hL hb0 hb1 hT hp hst hI;obtain⟨A,cap,rfl,hl,hc,hK⟩:=Lies.mk_iff.1 j8;obtain⟨-,H7,I0,hsk⟩:=j11 hsh;have hlc:=j23 ks;have hcc:=hc;unfold maxLen at hcc;simp only[cnt] at hb1;have L6:=j91 k;obtain⟨b1,d1⟩: ∃b1,(k==1)=b1:=⟨_,rfl⟩;obtain⟨b2,d2⟩: ∃b2,decide (b<=n)=b2:=⟨_,rfl⟩;have su:fvs (.mk k n ks) b=(if(b1 && b2)=true then [n - b] else [])++fvss k ks 0 b:=by
  conv=> lhs;unfold fvs
  rw[<-d1,<-d2];simp
 have yq: ∀i,i∈fvss k ks 0 b->p i:=fun i hi=> hp i (by rw[su];exact List.mem_append.2 (.inr hi))
 have Q9:=hst;have nc: ∀x,x∈L->x≠w.heap.size:=fun x hx e=> by have:=(hL x hx).2;omega
 have V8:Ext w (w.alloc (.cells #[.int .i64 k,.int .i64 n,.slice A ks.length cap] 26)):=(xr w).alloc _;have qq:=heap_alloc_new w (.cells #[.int .i64 k,.int .i64 n,.slice A ks.length cap] 26);have xu:(w.alloc (.cells #[.int .i64 k,.int .i64 n,.slice A ks.length cap] 26)).heap.size=w.heap.size+1:=by simp
 have ru:b1=true->b2=true->Calls Tryz.prog 42 #[.int .i64 (n - b),.pointer (some ⟨p1,0,none⟩)] (w.alloc (.cells #[.int .i64 k,.int .i64 n,.slice A ks.length cap] 26)) fun e w'=> e= .returned (.tuple #[])/\Only L (w.alloc (.cells #[.int .i64 k,.int .i64 n,.slice A ks.length cap] 26)) w'/\Inv w' (f s (n - b)):=fun h1 h2=>
  hT _ s _ (ha.trans V8) (hst _ _ _ hI V8) (hp _ (by rw[su,h1,h2];simp))
 have nh:=hst _ _ _ hI V8;have hTx: ∀s1,(if(b1 && b2)=true then f s (n - b) else s)=s1->(fvs (.mk k n ks) b).foldl f s=(fvss k ks 0 b).foldl f s1:=fun s1 h=> by
  rw[su,<-h,List.foldl_append]
  split <;> rfl
 have dr:=hdq ru;have HTX:=hdq hTx;have xx:=hdq nc;clear ru hTx su hp nc;cases b1 <;> cases b2
 case true.true=>
  have zy:=hdq (dr.out rfl rfl);clear dr;go_enter Tryz.func41,Tryz.ntmps41;go_wp2_with fail;refine zy.out.mono ?_;rintro e w1 ⟨rfl,pg,Ik⟩;have mb:=HTX.out _ rfl;clear zy;have vh:=hdq (show(fvs (.mk k n ks) b).foldl f s=(fvss k ks 0 b).foldl f (f s (n - b)) from mb);clear mb;have V9:w1.heap[w.heap.size]? =some (.cells #[.int .i64 k,.int .i64 n,.slice A ks.length cap] 26 (0,0)):=(pg.block _ (by rw[xu];omega) (fun h=> xx.out _ h rfl)).trans qq;have ha1:Ext a w1:=pg.ext (ha.trans V8) (fun x hx=>(hL x hx).1);have hO:Only L w w1:=(oE V8).trans pg;have uv:w.heap.size < w1.heap.size:=j10 V9;clear pg qq xu V8 nh;obtain⟨x0,x1,x2,-,-,-⟩:=own3 V9;go_wp2_with fail;clear x0 x1 x2
  go_loopw [26] (fun i wr=> ∃(j:Nat) (s2:σ),j<=ks.length/\i= .int .i64 j/\Inv wr s2/\(fvss k ks 0 b).foldl f (f s (n - b))=(fvss k (ks.drop j) j b).foldl f s2/\Only L w1 wr) (fun i _=> ks.length -(intOf i).toNat)
  case atStart=> exact⟨0,(f s (n - b)),Nat.zero_le _,rfl,Ik,rfl,Only.refl _ _⟩
  case round=>
   obtain⟨j,s2,hj,rfl,cf,F4,ho⟩:=hrel;have HE:=hdq F4;clear F4;have M9:Ext a wr:=ho.ext ha1 (fun x hx=>(hL x hx).1);have qd:=(ho.block _ uv (fun h=> xx.out _ h rfl)).trans V9;obtain⟨x0,x1,x2,-,-,-⟩:=own3 qd;have ut:=y64 k j;by_cases hlt:j < ks.length
   · obtain⟨b',o,k',n',A',cap',kids,rfl,HK,c0,c1,c2,I6,G9,hK',C8,j6⟩:=hK.get M9 hlt
     have hst:(fvss k (ks.drop j) j b).foldl f s2=(fvss k (ks.drop (j+1)) (j+1) b).foldl f ((fvs (.mk k' n' kids) (b+und k j)).foldl f s2):=by
      rw[List.drop_eq_getElem_cons hlt,HK.out];conv=> lhs;unfold fvss
      rw[List.foldl_append]
     have HR:=hdq (hk _ j6 a);have bj: ∀i,i∈fvs (.mk k' n' kids) (b+und k j)->p i:=fun i hi=> yq i (by
      rw[<-HK.out] at hi;exact y111 hlt (by rw[Nat.zero_add];exact hi))
     have hcm:=q16 j6;have mn:=hsk _ j6;have hj':(j:Int) <(ks.length:Int):=by omega
     obtain⟨u,hu⟩: ∃u,u=und k j:=⟨_,rfl⟩;have HU:=hdq (fun W=> j50 k j W);rw[<-hu] at HU ut hst bj;have HT:=hdq hst;have wn:=hdq (IntWalk.i64_in (b+u) ⟨by omega,by omega⟩);clear hu hst;have P5:Lies a (.mk k' n' kids) (.agg #[.int .i64 k',.int .i64 n',.slice A' kids.length cap']):=by
      obtain⟨b2,o2,k2,n2,A2,I7,o8,h1,h2,e0,e1,e2,h6,h7,h8,h9,h10⟩:=hK.get (xr a) hlt;obtain⟨rfl,rfl⟩:b'=b2/\o=o2:=by cases h1;exact⟨rfl,rfl⟩
      have e3:=(M9.cell e0).symm.trans c0;have e4:=(M9.cell e1).symm.trans c1;have e5:=(M9.cell e2).symm.trans c2;have e6:=h2.out.symm.trans HK.out;cases e3;cases e4;cases e6;cases e5
      exact h9
     go_wp2_with fail;have hx:=(xr wr).alloc (.cells #[.int .i64 k',.int .i64 n',.slice A' kids.length cap'] 26);have E8:=heap_alloc_new wr (.cells #[.int .i64 k',.int .i64 n',.slice A' kids.length cap'] 26);obtain⟨w5,q7⟩: ∃w5,w5=wr.alloc (.cells #[.int .i64 k',.int .i64 n',.slice A' kids.length cap'] 26):=⟨_,rfl⟩;rw[<-q7] at hx E8⊢;clear q7;have Lq:w.heap.size < wr.heap.size:=j10 qd;have uh: ∀x,x∈L->x≠w.heap.size/\x≠wr.heap.size:=fun x hx=>⟨xx.out x hx,by have:=(hL x hx).2;omega⟩
     have I3:=hx.blk qd;have hs5:wr.heap.size < w5.heap.size:=j10 E8;have HC:=hdq (show∀w',Only L w5 w'->w'.cell? ⟨w.heap.size,0,none⟩=some (.int .i64 k)/\w'.cell? ⟨wr.heap.size,0,none⟩=some (.int .i64 k')/\w'.cell? ⟨wr.heap.size,1,none⟩=some (.int .i64 n')/\w'.cell? ⟨wr.heap.size,2,none⟩=some (.slice A' kids.length cap') from fun w' hw'=> by
      obtain⟨p0,-,-,-,-,-⟩:=own3 ((hw'.block w.heap.size (by omega) (fun h=>(uh _ h).1 rfl)).trans I3);obtain⟨q0,q1,q2,-,-,-⟩:=own3 ((hw'.block wr.heap.size (by omega) (fun h=>(uh _ h).2 rfl)).trans E8);exact⟨p0,q0,q1,q2⟩)
     obtain⟨y0,z0,z1,z2⟩:=HC.out w5 (Only.refl _ _);have Ji:=M9.trans hx;have Z7:=Q9 _ _ _ cf hx;have HF:=hdq (fun W (hW:Ext w5 W)=> HR.out W _ (b+u) _ p1 L σ Inv f p s2 mn P5 (Ji.trans hW) (fun x hx=>⟨(hL x hx).1,by have:=(hL x hx).2;have:=hW.size;omega⟩) (by omega) (by omega) hT bj Q9 (Q9 _ _ _ Z7 hW));have bo:Only L w1 w5:=ho.trans (oE hx);have xn:=hdq hsk;have pj:=hdq hL;have HST:=hdq Q9;have N0:=hdq hT;have HPK:=hdq yq;clear hsk hL Q9 hst hT yq uh mn hk P5;clear c0 c1 c2 x0 x1 x2 E8 qd HR bj hK' C8 I3 cf ho M9 hx Z7
     go_region_held3 (fun w'=> w'.cell? ⟨w.heap.size,0,none⟩=some (.int .i64 k)/\w'.cell? ⟨wr.heap.size,0,none⟩=some (.int .i64 k')/\w'.cell? ⟨wr.heap.size,1,none⟩=some (.int .i64 n')/\w'.cell? ⟨wr.heap.size,2,none⟩=some (.slice A' kids.length cap'))
      (first|exact HC.out _ Ad|exact HC.out _ (oE (xr w5).drew))
      (first|(go_at_call 76;refine(HU.out _).mono ?_;rintro e w6 ⟨rfl,rfl⟩) |(go_at_call 41;rw[wn.out];refine(HF.out _ (xr w5).drew).mono ?_;rintro e w6 ⟨rfl,uz,Nw⟩;have Ad:Only L w5 w6:=(oE (xr w5).drew).trans uz))
     go_wp2_with fail
     go_roundw
     case rel=> exact⟨j+1,_,by omega,by go_num,Nw,by rw[HE.out,HT.out],bo.trans Ad⟩
     case measure=> simp[intOf];omega
   · go_wp2_with fail
     go_end0
     rw[List.drop_of_length_le (by omega)] at HE;exact⟨rfl,hO.trans ho,by rw[vh.out,HE.out];exact cf⟩
 all_goals(
  clear dr;go_enter Tryz.func41,Tryz.ntmps41;go_wp2_with fail;have mb:=HTX.out _ rfl;generalize w.alloc _=w1 at nh qq V8 xu;have pg:=Only.refl L w1;have Ik:=nh;have vh:=hdq (show(fvs (.mk k n ks) b).foldl f s=(fvss k ks 0 b).foldl f s from mb);clear mb;have V9:w1.heap[w.heap.size]? =some (.cells #[.int .i64 k,.int .i64 n,.slice A ks.length cap] 26 (0,0)):=(pg.block _ (by rw[xu];omega) (fun h=> xx.out _ h rfl)).trans qq;have ha1:Ext a w1:=pg.ext (ha.trans V8) (fun x hx=>(hL x hx).1);have hO:Only L w w1:=(oE V8).trans pg;have uv:w.heap.size < w1.heap.size:=j10 V9;clear pg qq xu V8 nh
  go_loopw [26] (fun i wr=> ∃(j:Nat) (s2:σ),j<=ks.length/\i= .int .i64 j/\Inv wr s2/\(fvss k ks 0 b).foldl f s=(fvss k (ks.drop j) j b).foldl f s2/\Only L w1 wr) (fun i _=> ks.length -(intOf i).toNat)
  case atStart=> exact⟨0,s,Nat.zero_le _,rfl,Ik,rfl,Only.refl _ _⟩
  case round=>
   obtain⟨j,s2,hj,rfl,cf,F4,ho⟩:=hrel;have HE:=hdq F4;clear F4;have M9:Ext a wr:=ho.ext ha1 (fun x hx=>(hL x hx).1);have qd:=(ho.block _ uv (fun h=> xx.out _ h rfl)).trans V9;obtain⟨x0,x1,x2,-,-,-⟩:=own3 qd;have ut:=y64 k j;by_cases hlt:j < ks.length
   · obtain⟨b',o,k',n',A',cap',kids,rfl,HK,c0,c1,c2,I6,G9,hK',C8,j6⟩:=hK.get M9 hlt
     have hst:(fvss k (ks.drop j) j b).foldl f s2=(fvss k (ks.drop (j+1)) (j+1) b).foldl f ((fvs (.mk k' n' kids) (b+und k j)).foldl f s2):=by
      rw[List.drop_eq_getElem_cons hlt,HK.out];conv=> lhs;unfold fvss
      rw[List.foldl_append]
     have HR:=hdq (hk _ j6 a);have bj: ∀i,i∈fvs (.mk k' n' kids) (b+und k j)->p i:=fun i hi=> yq i (by
      rw[<-HK.out] at hi;exact y111 hlt (by rw[Nat.zero_add];exact hi))
     have hcm:=q16 j6;have mn:=hsk _ j6;have hj':(j:Int) <(ks.length:Int):=by omega
     obtain⟨u,hu⟩: ∃u,u=und k j:=⟨_,rfl⟩;have HU:=hdq (fun W=> j50 k j W);rw[<-hu] at HU ut hst bj;have HT:=hdq hst;have wn:=hdq (IntWalk.i64_in (b+u) ⟨by omega,by omega⟩);clear hu hst;have P5:Lies a (.mk k' n' kids) (.agg #[.int .i64 k',.int .i64 n',.slice A' kids.length cap']):=by
      obtain⟨b2,o2,k2,n2,A2,I7,o8,h1,h2,e0,e1,e2,h6,h7,h8,h9,h10⟩:=hK.get (xr a) hlt;obtain⟨rfl,rfl⟩:b'=b2/\o=o2:=by cases h1;exact⟨rfl,rfl⟩
      have e3:=(M9.cell e0).symm.trans c0;have e4:=(M9.cell e1).symm.trans c1;have e5:=(M9.cell e2).symm.trans c2;have e6:=h2.out.symm.trans HK.out;cases e3;cases e4;cases e6;cases e5
      exact h9
     go_wp2_with fail;have hx:=(xr wr).alloc (.cells #[.int .i64 k',.int .i64 n',.slice A' kids.length cap'] 26);have E8:=heap_alloc_new wr (.cells #[.int .i64 k',.int .i64 n',.slice A' kids.length cap'] 26);obtain⟨w5,q7⟩: ∃w5,w5=wr.alloc (.cells #[.int .i64 k',.int .i64 n',.slice A' kids.length cap'] 26):=⟨_,rfl⟩;rw[<-q7] at hx E8⊢;clear q7;have Lq:w.heap.size < wr.heap.size:=j10 qd;have uh: ∀x,x∈L->x≠w.heap.size/\x≠wr.heap.size:=fun x hx=>⟨xx.out x hx,by have:=(hL x hx).2;omega⟩
     have I3:=hx.blk qd;have hs5:wr.heap.size < w5.heap.size:=j10 E8;have HC:=hdq (show∀w',Only L w5 w'->w'.cell? ⟨w.heap.size,0,none⟩=some (.int .i64 k)/\w'.cell? ⟨wr.heap.size,0,none⟩=some (.int .i64 k')/\w'.cell? ⟨wr.heap.size,1,none⟩=some (.int .i64 n')/\w'.cell? ⟨wr.heap.size,2,none⟩=some (.slice A' kids.length cap') from fun w' hw'=> by
      obtain⟨p0,-,-,-,-,-⟩:=own3 ((hw'.block w.heap.size (by omega) (fun h=>(uh _ h).1 rfl)).trans I3);obtain⟨q0,q1,q2,-,-,-⟩:=own3 ((hw'.block wr.heap.size (by omega) (fun h=>(uh _ h).2 rfl)).trans E8);exact⟨p0,q0,q1,q2⟩)
     obtain⟨y0,z0,z1,z2⟩:=HC.out w5 (Only.refl _ _);have Ji:=M9.trans hx;have Z7:=Q9 _ _ _ cf hx;have HF:=hdq (fun W (hW:Ext w5 W)=> HR.out W _ (b+u) _ p1 L σ Inv f p s2 mn P5 (Ji.trans hW) (fun x hx=>⟨(hL x hx).1,by have:=(hL x hx).2;have:=hW.size;omega⟩) (by omega) (by omega) hT bj Q9 (Q9 _ _ _ Z7 hW));have bo:Only L w1 w5:=ho.trans (oE hx);have xn:=hdq hsk;have pj:=hdq hL;have HST:=hdq Q9;have N0:=hdq hT;have HPK:=hdq yq;clear hsk hL Q9 hst hT yq uh mn hk P5;clear c0 c1 c2 x0 x1 x2 E8 qd HR bj hK' C8 I3 cf ho M9 hx Z7
     go_region_held3 (fun w'=> w'.cell? ⟨w.heap.size,0,none⟩=some (.int .i64 k)/\w'.cell? ⟨wr.heap.size,0,none⟩=some (.int .i64 k')/\w'.cell? ⟨wr.heap.size,1,none⟩=some (.int .i64 n')/\w'.cell? ⟨wr.heap.size,2,none⟩=some (.slice A' kids.length cap'))
      (first|exact HC.out _ Ad|exact HC.out _ (oE (xr w5).drew))
      (first|(go_at_call 76;refine(HU.out _).mono ?_;rintro e w6 ⟨rfl,rfl⟩) |(go_at_call 41;rw[wn.out];refine(HF.out _ (xr w5).drew).mono ?_;rintro e w6 ⟨rfl,uz,Nw⟩;have Ad:Only L w5 w6:=(oE (xr w5).drew).trans uz))
     go_wp2_with fail
     go_roundw
     case rel=> exact⟨j+1,_,by omega,by go_num,Nw,by rw[HE.out,HT.out],bo.trans Ad⟩
     case measure=> simp[intOf];omega
   · go_wp2_with fail
     go_end0
     rw[List.drop_of_length_le (by omega)] at HE;exact⟨rfl,hO.trans ho,by rw[vh.out,HE.out];exact cf⟩)
def MxI(p1:Nat)(w:World)(s:Int):Prop:=w.heap[p1]? =some (.cells #[.int .i64 s] 3 (0,0))/\0<=s/\s<=21
theorem y207(a:World)(p1:Nat):q189 a p1 [p1] (MxI p1) (fun s i=> max s (i+1)) (fun i=> 0<=i/\i<=20):=by
 intro w s i ha hI hi;obtain⟨hb,h0,h1⟩:=hI;have c0:=q10 hb 0;have f0:=q14 hb 0;have hB:=hdq hb;clear hb;go_enter Tryz.func42,Tryz.ntmps42;go_wp2_with fail
 all_goals go_end0
 all_goals exact⟨rfl,(Only.refl _ _).setCell (by simp) _,q11 hB.out 0 _|>.trans (by simp;omega),by omega,by omega⟩
theorem q138(t:Tr)(w:World)(v:Value)(j8:Lies w t v)(hv:valid sigT t=true):Calls Tryz.prog 24 #[v] w fun e w'=> e= .returned (.int .i64 (mxf t 0))/\Ext w w':=by
 obtain⟨h1,h2⟩:=y11 hv;have hF:=fun W (hW:Ext w W) p1 (hp:w.heap.size<=p1) (hb:W.heap[p1]? =some (.cells #[.int .i64 0] 3 (0,0)))=>
  j138 t w W v 0 30 p1 [p1] Int (MxI p1) (fun s i=> max s (i+1)) (fun i=> 0<=i/\i<=20) 0 h1 j8 hW (fun x hx=> by rw[List.mem_singleton.1 hx];exact⟨hp,j10 hb⟩) (by omega) (by omega)
   (y207 w p1) (fun i hi=> by have:=j174 t 0 30 i h1 (by omega) hi;omega) (fun w1 w2 s hs he=>⟨he.blk hs.1,hs.2⟩) ⟨hb,by omega,by omega⟩
 have hm:=q143 t 0 0 (by omega);have hn:=j159 t 0;rw[hm,Int.max_eq_right hn] at hF;have HF:=hdq hF;clear hm hn h1 h2 hv hF;obtain⟨k,n,ks⟩:=t;obtain⟨A,cap,rfl,hl,hc,hK⟩:=Lies.mk_iff.1 j8;generalize mxf (.mk k n ks) 0=m at HF;go_enter Tryz.func24,Tryz.ntmps24;go_wp2_with fail;have hE:=((xr w).alloc (.cells #[.int .i64 k,.int .i64 n,.slice A ks.length cap] 26)).alloc (.cells #[.int .i64 0] 3);obtain⟨hb1,hb2,hsz⟩:=blk2 (xr ((w.alloc (.cells #[.int .i64 k,.int .i64 n,.slice A ks.length cap] 26)).alloc (.cells #[.int .i64 0] 3)));refine(HF.out _ hE (w.heap.size+1) (by omega) hb2).mono ?_;rintro e w1 ⟨rfl,ho,hI⟩;have hc1:=q10 hI.1 0;have C5:=ho.ext hE (fun x hx=> by rw[List.mem_singleton.1 hx];omega);clear hb1 hb2 HF;go_wp2_with fail;go_ret;exact⟨rfl,C5⟩
end Go.Proofs.YtbnkbepgmenblaaGreatDoor
