/- Lemmas towards the law. -/
import Derived.Test.YtckhbnmfnpolgaaGreatTAM
import Derived.Lib.SliceRun
open Go renaming World->aN,Value->aU,bodyPost_ret->aQ,results->aS,TypeId->bU,Program->fM,undef->mR,wpAnyH->jZ,heap_alloc_new->aT
open Nat renaming le_trans->bM,lt_of_lt_of_le->aZ,le_refl->aP
open List renaming range->iX,any_eq_false->jV
open Go.Region renaming wanted->eX,ready->kU
open Bool renaming and_eq_true->aX,not_eq_true'->iQ
open Array renaming getD_eq_getD_getElem?->dU,getElem_setIfInBounds_ne->kQ
open Option renaming getD_some->kP
open Classical renaming byContradiction->iU
open Go.Proofs.Tryz
set_option linter.all false
set_option maxHeartbeats 1000000
set_option maxRecDepth 100000
namespace Go.Proofs.YtckhbnmfnpolgaaGreat
open Go.RowKit
theorem UF(d:Nat)(ih:Yd d)(s:ByteArray)(a many:Nat)(last:UInt8)(A M L:Int)(hA:A=a)(f:M=many)(b:L=(last.toNat:Int))(w:aN)(hs:s.size<=1000000000)(c:a<=s.size+2)(hm:many<=4)(e:1<=many):
 Calls prog 198 #[.string s,j0 A,j0 d,j0 M,.int .u8 L] w (yE w.heap.size w s.size (Xe (b7 d s.data.toList) s.data.toList last many a)):=by
 subst hA f b;exact rG d ih s a many last w hs c hm e
theorem Pu(B:Nat)(w a:aN)(size:Nat)(o:Option (Tr×Nat))(b:o=none)(hx:Ext w a):Sb B w size o (.returned (.tuple #[m0 0 0 none 0 0,j0 (-1)])) a:=
 ⟨.mk 0 0 [],_,-1,rfl,E2.leaf _ _ _ _,hx,(fun x hx=> by rw[b] at hx;cases hx),fun _=> rfl⟩
theorem Tc.set{B:Nat}{w:aN}{A:Option Addr}{c:List Tr}(h:Tc B w A c){p:Addr}(d:p.block < B)(u:aU):Tc B (w.setCell p u) A c:=
 h.mono (fun b a=>⟨a.1,by simpa using a.2⟩) (fun b a=> Below.heap_setCell w p u b (by omega))
theorem E2.mk{B:Nat}{w:aN}{A:Option Addr}{a:List Tr}{cap:Nat}(k n:Int)(h:Tc B w A a)(hl:a.length<=cap)(hc:cap<=maxLen):E2 B w (.mk k n a) (m0 k n A a.length cap):=InT.mk_iff.2 ⟨A,cap,rfl,hl,hc,h⟩
theorem xJ(d:Nat)(hd:d<=30)(ih:Yd d)(s:ByteArray)(a:Nat)(w:aN)(hs:s.size<=1000000000)(J:a < s.size)(hc:s[a]=60):
 Calls prog 195 #[.string s,j0 a,j0 ((d:Int)+1)] w (Sb w.heap.size w s.size (blk (b7 d s.data.toList) s.data.toList a 60)):=by
 have g:=hdq (fun W=> UF d ih s (a+1) 4 62 ((a:Int)+1) 4 62 (by omega) (by omega) (by decide) W hs (by omega) (by omega) (by omega));obtain⟨F,hF⟩: ∃F,F=b7 d s.data.toList:=⟨_,rfl⟩;rw[<-hF] at g⊢;obtain⟨S,hS⟩: ∃S,S=Xe F s.data.toList 62 4 (a+1):=⟨_,rfl⟩;rw[<-hS] at g;have j:blk F s.data.toList a 60=S.map (fun x=>(.mk 9 0 x.1,x.2)):=by rw[hS];rfl
 rw[j];have k:=hdq (fun W=> di 9 W);have b:S0 9=4:=rfl;rw[b] at k;clear j ih hF hS b;go_enter func195,ntmps195;go_wp2_with fail;refine(k.out _).mono ?_;rintro e w0 ⟨rfl,rfl⟩;go_wp2_with fail;refine(g.out _).mono ?_;rintro e t ⟨ts,A,cap,n,rfl,I,z,hK,f,i,l⟩;obtain⟨C,B,q,M,K,L⟩:=own3 f.newBlk;have o:=f.size_alloc;have hx:=((xr w).alloc M0).trans f;have u:=hdq i;have H:=hdq l;have c:Tc (w.heap.size+1) t A ts:=by simpa using hK
 clear i l hK;go_wp2_with fail;refine aQ (v:= .tuple #[m0 9 0 A ts.length cap,j0 n]) (by simp[aS,results195,go_sem,C,B,q]) rfl ⟨.mk 9 0 ts,_,n,rfl, ?_, ?_, ?_, ?_⟩
 · exact(E2.mk 9 0 (((c.set (by simp) _).set (by simp) _).set (by simp) _) I z).since (by omega)
 · exact((hx.setCell (by simp) _).setCell (by simp) _).setCell (by simp) _
 · intro x hx
   cases S with
   |none=> cases hx
   |some y=>
    obtain⟨r,p,D⟩:=u.out y rfl;cases hx
    exact⟨by rw[r],p,D⟩
 · intro hx
   cases S with
   |none=> exact H.out rfl
   |some y=> cases hx
theorem JJ(d:Nat)(hd:d<=30)(ih:Yd d)(s:ByteArray)(a:Nat)(w:aN)(hs:s.size<=1000000000)(J:a < s.size)(hc:s[a]=123):
 Calls prog 195 #[.string s,j0 a,j0 ((d:Int)+1)] w (Sb w.heap.size w s.size (blk (b7 d s.data.toList) s.data.toList a 123)):=by
 have g:=hdq (fun W=> UF d ih s (a+1) 3 125 ((a:Int)+1) 3 125 (by omega) (by omega) (by decide) W hs (by omega) (by omega) (by omega));obtain⟨F,hF⟩: ∃F,F=b7 d s.data.toList:=⟨_,rfl⟩;rw[<-hF] at g⊢;obtain⟨S,hS⟩: ∃S,S=Xe F s.data.toList 125 3 (a+1):=⟨_,rfl⟩;rw[<-hS] at g;have j:blk F s.data.toList a 123=S.map (fun x=>(.mk 10 0 x.1,x.2)):=by rw[hS];rfl
 rw[j];have k:=hdq (fun W=> di 10 W);have b:S0 10=3:=rfl;rw[b] at k;clear j ih hF hS b;go_enter func195,ntmps195;go_wp2_with fail;refine(k.out _).mono ?_;rintro e w0 ⟨rfl,rfl⟩;go_wp2_with fail;refine(g.out _).mono ?_;rintro e t ⟨ts,A,cap,n,rfl,I,z,hK,f,i,l⟩;obtain⟨C,B,q,M,K,L⟩:=own3 f.newBlk;have o:=f.size_alloc;have hx:=((xr w).alloc M0).trans f;have u:=hdq i;have H:=hdq l;have c:Tc (w.heap.size+1) t A ts:=by simpa using hK
 clear i l hK;go_wp2_with fail;refine aQ (v:= .tuple #[m0 10 0 A ts.length cap,j0 n]) (by simp[aS,results195,go_sem,C,B,q]) rfl ⟨.mk 10 0 ts,_,n,rfl, ?_, ?_, ?_, ?_⟩
 · exact(E2.mk 10 0 (((c.set (by simp) _).set (by simp) _).set (by simp) _) I z).since (by omega)
 · exact((hx.setCell (by simp) _).setCell (by simp) _).setCell (by simp) _
 · intro x hx
   cases S with
   |none=> cases hx
   |some y=>
    obtain⟨r,p,D⟩:=u.out y rfl;cases hx
    exact⟨by rw[r],p,D⟩
 · intro hx
   cases S with
   |none=> exact H.out rfl
   |some y=> cases hx
theorem SH(d:Nat)(hd:d<=30)(ih:Yd d)(s:ByteArray)(a:Nat)(w:aN)(hs:s.size<=1000000000)(J:a < s.size)(hc:s[a]=124):
 Calls prog 195 #[.string s,j0 a,j0 ((d:Int)+1)] w (Sb w.heap.size w s.size (blk (b7 d s.data.toList) s.data.toList a 124)):=by
 have g:=hdq (fun W=> UF d ih s (a+1) 3 124 ((a:Int)+1) 3 124 (by omega) (by omega) (by decide) W hs (by omega) (by omega) (by omega));obtain⟨F,hF⟩: ∃F,F=b7 d s.data.toList:=⟨_,rfl⟩;rw[<-hF] at g⊢;obtain⟨S,hS⟩: ∃S,S=Xe F s.data.toList 124 3 (a+1):=⟨_,rfl⟩;rw[<-hS] at g;have j:blk F s.data.toList a 124=S.map (fun x=>(.mk 14 0 x.1,x.2)):=by rw[hS];rfl
 rw[j];have k:=hdq (fun W=> di 14 W);have b:S0 14=3:=rfl;rw[b] at k;clear j ih hF hS b;go_enter func195,ntmps195;go_wp2_with fail;refine(k.out _).mono ?_;rintro e w0 ⟨rfl,rfl⟩;go_wp2_with fail;refine(g.out _).mono ?_;rintro e t ⟨ts,A,cap,n,rfl,I,z,hK,f,i,l⟩;obtain⟨C,B,q,M,K,L⟩:=own3 f.newBlk;have o:=f.size_alloc;have hx:=((xr w).alloc M0).trans f;have u:=hdq i;have H:=hdq l;have c:Tc (w.heap.size+1) t A ts:=by simpa using hK
 clear i l hK;go_wp2_with fail;refine aQ (v:= .tuple #[m0 14 0 A ts.length cap,j0 n]) (by simp[aS,results195,go_sem,C,B,q]) rfl ⟨.mk 14 0 ts,_,n,rfl, ?_, ?_, ?_, ?_⟩
 · exact(E2.mk 14 0 (((c.set (by simp) _).set (by simp) _).set (by simp) _) I z).since (by omega)
 · exact((hx.setCell (by simp) _).setCell (by simp) _).setCell (by simp) _
 · intro x hx
   cases S with
   |none=> cases hx
   |some y=>
    obtain⟨r,p,D⟩:=u.out y rfl;cases hx
    exact⟨by rw[r],p,D⟩
 · intro hx
   cases S with
   |none=> exact H.out rfl
   |some y=> cases hx
theorem YF(d:Nat)(hd:d<=30)(ih:Yd d)(s:ByteArray)(a:Nat)(w:aN)(hs:s.size<=1000000000)(X:a < s.size)(hc:s[a]=64):
 Calls prog 195 #[.string s,j0 a,j0 ((d:Int)+1)] w (Sb w.heap.size w s.size (blk (b7 d s.data.toList) s.data.toList a 64)):=by
 have n:=hdq (fun W=> UF d ih s (a+2) 3 62 ((a:Int)+2) 3 62 (by omega) (by omega) (by decide) W hs (by omega) (by omega) (by omega));obtain⟨F,hF⟩: ∃F,F=b7 d s.data.toList:=⟨_,rfl⟩;rw[<-hF] at n⊢;obtain⟨S,hS⟩: ∃S,S=Xe F s.data.toList 62 3 (a+2):=⟨_,rfl⟩;rw[<-hS] at n;have f:blk F s.data.toList a 64=if s.data.toList[a+1]? =some 60 then S.map (fun x=>(.mk 12 0 x.1,x.2)) else none:=by rw[hS];rfl
 obtain⟨R,g⟩: ∃R,R=blk F s.data.toList a 64:=⟨_,rfl⟩;rw[<-g] at f⊢;have r:=hdq (fun W=> di 12 W);have i:S0 12=3:=rfl;rw[i] at r;clear g ih hF hS i;by_cases V:a+1 < s.size
 · obtain⟨c,k⟩: ∃c,s[a+1]=c:=⟨_,rfl⟩
   rw[oe V k] at f;have t1:decide ((s.size:Int) <(a:Int)+2)=false:=decide_eq_false (by omega);have I:(a:Int)+1 <(s.size:Int):=by omega
   obtain⟨p,q⟩: ∃p,c.toNat=p:=⟨_,rfl⟩;by_cases b:c=60
   · rw[if_pos (by rw[b])] at f
     have J:p=60:=by rw[<-q,b];rfl
     have HR:=hdq f;subst J;clear f b;go_enter func195,ntmps195;go_wp2_with fail;refine(r.out _).mono ?_;rintro e w0 ⟨rfl,rfl⟩;go_wp2_with fail;refine(n.out _).mono ?_;rintro e H ⟨ts,A,cap,u,rfl,U,L,hK,l,o,t⟩;obtain⟨N,M,C,f0,Y,Z⟩:=own3 l.newBlk;have z:=l.size_alloc;have hx:=((xr w).alloc M0).trans l;have K:=hdq o;have T:=hdq t;have j:Tc (w.heap.size+1) H A ts:=by simpa using hK
     clear o t hK;go_wp2_with fail;refine aQ (v:= .tuple #[m0 12 0 A ts.length cap,j0 u]) (by simp[aS,results195,go_sem,N,M,C]) rfl ⟨.mk 12 0 ts,_,u,rfl, ?_, ?_, ?_, ?_⟩
     · exact(E2.mk 12 0 (((j.set (by simp) _).set (by simp) _).set (by simp) _) U L).since (by omega)
     · exact((hx.setCell (by simp) _).setCell (by simp) _).setCell (by simp) _
     · intro x hx
       rw[HR.out] at hx;cases S with
       |none=> cases hx
       |some y=>
        obtain⟨D,B,O⟩:=K.out y rfl;cases hx
        exact⟨by rw[D],B,O⟩
     · intro hx
       rw[HR.out] at hx;cases S with
       |none=> exact T.out rfl
       |some y=> cases hx
   · rw[if_neg (by intro h;cases h;exact b rfl)] at f
     have t2:((p:Int) !=60)=true:=by rw[bne_iff_ne];intro h;exact b (UInt8.toNat_inj.1 (by rw[q];simp;omega))
     have HR:=hdq f;clear f b;go_enter func195,ntmps195;go_wp2_with fail;exact aQ (v:= .tuple #[m0 0 0 none 0 0,j0 (-1)]) (by simp[aS,results195,go_sem]) rfl (Pu _ _ _ _ _ HR.out ((xr w).alloc _))
 · rw[Vp s (by omega),if_neg (by simp)] at f
   have t1:decide ((s.size:Int) <(a:Int)+2)=true:=decide_eq_true (by omega);have HR:=hdq f;clear f;go_enter func195,ntmps195;go_wp2_with fail;exact aQ (v:= .tuple #[m0 0 0 none 0 0,j0 (-1)]) (by simp[aS,results195,go_sem]) rfl (Pu _ _ _ _ _ HR.out ((xr w).alloc _))
theorem NJ(d:Nat)(hd:d<=30)(s:ByteArray)(a:Nat)(w:aN)(hs:s.size<=1000000000)(k:a < s.size)(c:UInt8)(hc:s[a]=c)(hk:Kk c=0):
 Calls prog 195 #[.string s,j0 a,j0 ((d:Int)+1)] w (Sb w.heap.size w s.size (blk (b7 d s.data.toList) s.data.toList a c)):=by
 have HR:=hdq (show blk (b7 d s.data.toList) s.data.toList a c=none from by unfold blk;rw[if_pos hk]);generalize blk (b7 d s.data.toList) s.data.toList a c=R at HR⊢;obtain⟨p,b⟩: ∃p,c.toNat=p:=⟨_,rfl⟩;have f:c≠60:=fun h=> by rw[h] at hk;exact absurd hk (by decide)
 have e:c≠123:=fun h=> by rw[h] at hk;exact absurd hk (by decide)
 have g:c≠124:=fun h=> by rw[h] at hk;exact absurd hk (by decide)
 have i:c≠64:=fun h=> by rw[h] at hk;exact absurd hk (by decide)
 have t1:((p:Int)==60)=false:=by rw[beq_eq_false_iff_ne];intro h;exact f (UInt8.toNat_inj.1 (by rw[b];simp;omega))
 have t2:((p:Int)==123)=false:=by rw[beq_eq_false_iff_ne];intro h;exact e (UInt8.toNat_inj.1 (by rw[b];simp;omega))
 have l:((p:Int)==124)=false:=by rw[beq_eq_false_iff_ne];intro h;exact g (UInt8.toNat_inj.1 (by rw[b];simp;omega))
 have j:((p:Int)==64)=false:=by rw[beq_eq_false_iff_ne];intro h;exact i (UInt8.toNat_inj.1 (by rw[b];simp;omega))
 clear f e g i hk;go_enter func195,ntmps195;go_wp2_with fail;exact aQ (v:= .tuple #[m0 0 0 none 0 0,j0 (-1)]) (by simp[aS,results195,go_sem]) rfl (Pu _ _ _ _ _ HR.out ((xr w).alloc _))
end Go.Proofs.YtckhbnmfnpolgaaGreat
namespace Go.Proofs.YtckhbnmfnpolgaaGreat
open Go.RowKit
attribute [local go_sem ↓] Go.wp_at_zero Go.wp_at_succ
theorem Xz{w:aN}{base a k n:Nat}{e:bU}{v:aU}{c:List aU}(h:w.ownsRow base e k v n c)(d:a<=base):w.ownsRow a e k v n c:=by
 refine⟨h.1, ?_⟩;rcases h.2 with h|⟨g,cap,b,rfl,f,r⟩
 · exact .inl h
 · exact .inr ⟨g,cap,b,rfl,bM d f,r⟩
def Xr(w:aN)(u:aU)(p:List Int):Prop:=Pg w (fun b=> b < w.heap.size) u p
theorem Xr.ext{w c:aN}{u:aU}{p:List Int}(h:Xr w u p)(d:Ext w c):Xr c u p:=h.mono (fun b a=> aZ a d.size) (fun b a=> d.heap b a)
theorem Rz{w:aN}{base:Nat}{e:bU}{v:aU}{p:List Int}(h:w.ownsRow base e 1 v p.length (p.map (Value.int .i64))):Xr w v p:=(dK h).mono (fun b a=> a.2.1) (fun _ _=> rfl)
theorem uF:(prog.info? 3).map (fun i=>(i.zero,i.size,i.bytes))=some (some (j0 0),1,8):=by kernel_rfl
end Go.Proofs.YtckhbnmfnpolgaaGreat
namespace Go.Proofs.YtckhbnmfnpolgaaGreat.Ord
open Go
def dstOf(ops:Array Oper)(i:Nat):Option Tmp:=(ops[i]?).bind (·.dst)
def j96(ops:Array Oper)(i:Nat):List Nat:=((ops[i]?).map fun o=>(o.after.toList.filter (Region.binds .any)).map (·.on)).getD []
def sl(ops:Array Oper):Nat->Nat->Nat->Bool
 |0,_,_=> false
 |f+1,i,j=>(j96 ops i).any fun k=> k==j||sl ops f k j
def isOn(l:Array Bool)(i:Nat):Bool:=l.getD i false
def isDst(ops:Array Oper)(l:Array Bool)(m:Nat)(t:Nat):Bool:=(iX m).any fun j=> !isOn l j && dstOf ops j==some t
def W9(ops:Array Oper)(v:Nat->aU)(s:Nat->Bool)(a:Act):Nat->Act
 |0=> a
 |n+1=> if s n=true then(W9 ops v s a n).put (dstOf ops n) (v n) else W9 ops v s a n
def depO(ops:Array Oper)(l:Array Bool)(i j d:Nat):Bool:=(j96 ops i).contains j && dstOf ops j==some d && !isOn l j
def opnO(l:Array Bool):Nat->Nat
 |0=> 0
 |n+1=> opnO l n+if isOn l n=true then 0 else 1
def doneO(l:Array Bool)(m:Nat):Array Bool:=(Array.range l.size).map fun i=> decide (i < m) ||isOn l i
def jA(ops:Array Oper)(l:Array Bool)(m N:Nat):Bool:=
 (iX m).all fun i=> isOn l i||match dstOf ops i with
  |some d=> decide (d < N)&&(iX i).all fun j=> isOn l j||dstOf ops j !=some d
  |none=> true
def okX(ops:Array Oper)(l:Array Bool)(m N x:Nat):Bool:=
 jA ops l m N &&
 (iX (ops.size - m)).all (fun i=> isOn l (m+i) ||(iX m).all fun j=> j==x||isOn l j||sl ops ops.size (m+i) j)&&
 (iX ops.size).all (fun i=>(j96 ops i).all fun k=> decide (k < i)&&(!isOn l i||isOn l k))&& decide (m<=ops.size)&& decide (l.size=ops.size)
section
variable {Γ : Type} (P : fM) (ops : Array Oper) (Q : Exit → Act → aN → Prop) (l0 : Array Bool) (m : Nat) (E : aN × Γ → aN × Γ → Prop) (G : Nat → aU → aN × Γ → Prop) (a0 : Act) (w0 : aN × Γ)
def Et(i:Nat)(o:Oper):Prop:=
 ∀a w z,E w0 (w,z)->(∀t,isDst ops l0 m t=false->a.eval (.tmp t)=a0.eval (.tmp t))->(∀j d,depO ops l0 i j d=true->G j (a.eval (.tmp d)) (w,z))->
  wpOp P ops Q i (fun e b=> ∃u c,e=a.put o.dst u/\E (w,z) (b,c)/\G i u (b,c)) a w
def StL:List Nat->Prop
 | []=> True
 |i::is=>(∃o,ops[i]? =some o/\Et P ops Q l0 m E G a0 w0 i o)/\StL is
end
section
variable {Γ : Type} {P : fM} {ops : Array Oper} {Q : Exit → Act → aN → Prop} {l0 : Array Bool} {m : Nat} {E : aN × Γ → aN × Γ → Prop} {G : Nat → aU → aN × Γ → Prop} {a0 : Act} {w0 : aN × Γ}
theorem StL.get: ∀{is:List Nat} {i:Nat},StL P ops Q l0 m E G a0 w0 is->i∈is-> ∃o,ops[i]? =some o/\Et P ops Q l0 m E G a0 w0 i o
 | [],i,h,hi=> by cases hi
 |j::is,i,h,hi=> by
  rcases List.mem_cons.1 hi with rfl|hi
  · exact h.1
  · exact StL.get h.2 hi
theorem step_of{i:Nat}{o:Oper}{a:Act}{w:aN}{R:Act->aN->Prop}(e:ops[i]? =some o)(d:o.guard=none)(h: ∀K:Act->aN->Prop,(∀b c,R b c->K b c)->o.wp P a w K Q):wpOp P ops Q i R a w:=by
 unfold wpOp;rw[e];simp only;rw[if_pos]
 · exact .inl (h R fun _ _ h=> h)
 · unfold eX
   rw[d]
theorem QE{v v':Nat->aU}{s s':Nat->Bool}(a:Act): ∀{n:Nat},(∀j,j < n->s j=s' j/\(s j=true->v j=v' j))->W9 ops v s a n=W9 ops v' s' a n
 |0,_=> rfl
 |n+1,h=> by
  have ih:=QE a (n:=n) fun j d=> h j (by omega)
  obtain⟨c,b⟩:=h n (by omega);unfold W9;rw[ih,<-c]
  split
  · rename_i hs
    rw[b hs]
  · rfl
theorem Sw{N:Nat}(h:jA ops l0 m N=true){i:Nat}(hi:i < m)(hl:isOn l0 i=false){d:Tmp}(hd:dstOf ops i=some d):d < N/\ ∀j,j < i->isOn l0 j=false->dstOf ops j≠some d:=by
 unfold jA at h;simp only[List.all_eq_true,List.mem_range] at h;have:=h i hi;rw[hl,Bool.false_or,hd] at this;simp only[aX,decide_eq_true_eq,List.all_eq_true,List.mem_range,bne_iff_ne,Bool.or_eq_true] at this;exact⟨this.1,fun j a b=>(this.2 j a).resolve_left (by rw[b];decide)⟩
theorem Ut{N:Nat}(h:jA ops l0 m N=true){i j:Nat}(hi:i < m)(g:j < m)(f:isOn l0 i=false)(c:isOn l0 j=false)(b:i≠j){d:Tmp}(hd:dstOf ops i=some d):dstOf ops j≠some d:=by
 rcases Nat.lt_or_gt_of_ne b with a|a
 · exact fun e=>(Sw h g c e).2 i a f hd
 · exact(Sw h hi f hd).2 j a c
theorem Xx{N:Nat}(h:jA ops l0 m N=true){v:Nat->aU}{s:Nat->Bool}(a:Act)(b: ∀j,s j=true->isOn l0 j=false){i:Nat}(hs:s i=false)(c:isOn l0 i=false)(u:aU): ∀{n:Nat},i < n->n<=m->
 W9 ops (fun j=> if j=i then u else v j) (fun j=> if j=i then true else s j) a n=(W9 ops v s a n).put (dstOf ops i) u
 |0,hi,_=> by omega
 |n+1,hi,hn=> by
  by_cases e:n=i
  · subst e
    have k:(if n=n then true else s n)=true:=if_pos rfl;have g: ¬s n=true:=by rw[hs];decide
    have f:(if n=n then u else v n)=u:=if_pos rfl;unfold W9;rw[if_pos k,if_neg g,f];rw[QE a (v:=fun j=> if j=n then u else v j) (s:=fun j=> if j=n then true else s j) (v':=v) (s':=s) (fun j o=>⟨by rw[if_neg (by omega)],fun _=> by rw[if_neg (by omega)]⟩)]
  · have ih:=Xx h (v:=v) a b hs c u (n:=n) (by omega) (by omega)
    unfold W9;rw[if_neg e,if_neg e,ih]
    split
    · rename_i l
      rw[Act.put_comm];intro d hd;exact Ut h (by omega) (by omega) c (b n l) (Ne.symm e) hd
    · rfl
theorem KG(a:Act)(x:Option Tmp)(v:aU):(a.put x v).tmps.size=a.tmps.size:=by
 cases x <;> simp[Act.put]
theorem Qy(v:Nat->aU)(s:Nat->Bool)(a:Act): ∀n,(W9 ops v s a n).tmps.size=a.tmps.size
 |0=> rfl
 |n+1=> by
  unfold W9
  split
  · rw[KG,Qy]
  · exact Qy v s a n
theorem Wx(a:Act)(d:Tmp)(v:aU)(t:Tmp):(a.put (some d) v).eval (.tmp t)=if d=t then(if t < a.tmps.size then v else mR) else a.eval (.tmp t):=by
 show(a.tmps.setIfInBounds d v).getD t mR=_
 rw[dU,Array.getElem?_setIfInBounds]
 split
 · rename_i h
   subst h
   split <;> rfl
 · rw[show a.eval (.tmp t)=a.tmps.getD t mR from rfl,dU]
theorem Rv(v:Nat->aU)(s:Nat->Bool)(a:Act)(t:Tmp): ∀{n:Nat},(∀j,j < n->s j=true->dstOf ops j≠some t)->(W9 ops v s a n).eval (.tmp t)=a.eval (.tmp t)
 |0,_=> rfl
 |n+1,h=> by
  have ih:=Rv v s a t (n:=n) fun j b=> h j (by omega)
  unfold W9
  split
  · rename_i hs
    cases hd:dstOf ops n with
    |none=> exact ih
    |some d=>
     rw[Wx,if_neg,ih];intro e;exact h n (by omega) hs (by rw[hd,e])
  · exact ih
theorem Zv{N:Nat}(h:jA ops l0 m N=true)(v:Nat->aU)(s:Nat->Bool)(b: ∀j,s j=true->isOn l0 j=false)(a:Act)(hN:a.tmps.size=N){k:Nat}{d:Tmp}(hd:dstOf ops k=some d)(hk:s k=true): ∀{n:Nat},k < n->n<=m->(W9 ops v s a n).eval (.tmp d)=v k
 |0,hi,_=> by omega
 |n+1,hi,hn=> by
  by_cases e:n=k
  · subst e
    unfold W9;rw[if_pos hk,hd,Wx,if_pos rfl,if_pos];rw[Qy,hN];exact(Sw h (i:=n) (by omega) (b _ hk) hd).1
  · have ih:=Zv h v s b a hN hd hk (n:=n) (by omega) (by omega)
    unfold W9
    split
    · rename_i g
      cases f:dstOf ops n with
      |none=> exact ih
      |some l=>
       rw[Wx,if_neg,ih];intro c;subst c;exact Ut h (by omega) (by omega) (b _ hk) (b _ g) (Ne.symm e) hd f
    · exact ih
theorem IE{l:Nat->Bool}(hd: ∀i,l i=true-> ∀k∈j96 ops i,l k=true): ∀(f i j:Nat),(∀k∈j96 ops i,l k=true)->sl ops f i j=true->l j=true
 |0,_,_,_,h=> by cases h
 |f+1,i,j,hi,h=> by
  unfold sl at h;simp only[List.any_eq_true,Bool.or_eq_true,beq_iff_eq] at h;obtain⟨k,hk,h⟩:=h;rcases h with rfl|h
  · exact hi k hk
  · exact IE hd f k j (hd k (hi k hk)) h
theorem LH{a:Array Bool}{i:Nat}(h:i∈kU .any ops a):a.getD i true=false/\(∃o,ops[i]? =some o)/\ ∀k∈j96 ops i,isOn a k=true:=by
 obtain⟨g,o,b,c⟩:=mem_ready.1 h;refine⟨g,⟨o,b⟩,fun k hk=> ?_⟩;unfold j96 at hk;rw[b] at hk;simp only[Option.map_some,kP,List.mem_map,List.mem_filter] at hk;obtain⟨e,⟨f,d⟩,rfl⟩:=hk;exact c e (by simpa using f) d
theorem YH{a:Array Bool}{i:Nat}(hi:i < ops.size)(h:a.getD i true=false)(c: ∀k∈j96 ops i,isOn a k=true):i∈kU .any ops a:=by
 refine mem_ready.2 ⟨h,ops[i],by simp[hi],fun e d b=> c e.on ?_⟩;unfold j96;rw[show ops[i]? =some ops[i] by simp[hi]];simp only[Option.map_some,kP,List.mem_map,List.mem_filter];exact⟨e,⟨by simpa using d,b⟩,rfl⟩
theorem Bw{l l':Array Bool}{i:Nat}(b:isOn l i=false)(c:isOn l' i=true)(h: ∀j,j≠i->isOn l' j=isOn l j): ∀{n:Nat},opnO l n=opnO l' n+if i < n then 1 else 0
 |0=> by simp[opnO]
 |n+1=> by
  have ih:=Bw b c h (n:=n);unfold opnO;by_cases e:n=i
  · subst e
    rw[ih,b,c];simp
  · rw[ih,h n e]
    by_cases a:i < n
    · rw[if_pos a,if_pos (by omega:i < n+1)]
      omega
    · have d: ¬i < n+1:=by omega
      rw[if_neg a,if_neg d];omega
theorem mu{p:Nat->Bool}: ∀{n:Nat},(∃j,j < n/\p j=false)-> ∃j,j < n/\p j=false/\ ∀k,k < j->p k=true
 |0,h=> by obtain⟨j,f,-⟩:=h;omega
 |n+1,h=> by
  by_cases b: ∃j,j < n/\p j=false
  · obtain⟨j,c,a⟩:=mu b
    exact⟨j,by omega,a⟩
  · obtain⟨j,c,a⟩:=h
    have:j=n:=by
     apply iU
     intro e;exact b ⟨j,by omega,a⟩
    subst this;refine⟨j,c,a,fun k hk=> ?_⟩;cases d:p k with
    |true=> rfl
    |false=> exact absurd ⟨k,hk,d⟩ b
theorem wpAnyH_orderX{S:aN->Prop}{N fuel fT x:Nat}{lT:Array Bool}{is:List Nat}(his:(iX m).filter (fun j=> !isOn l0 j)=is)(Jz:okX ops l0 m N x=true)(hN:a0.tmps.size=N)(hf:fuel=opnO l0 ops.size)(hlT:doneO l0 m=lT)(hfT:opnO lT ops.size=fT)
 (hx:x < m-> ∃W,ops[x]? =some W/\isOn l0 x=false/\Region.noSelect ops=true/\Region.free .any ops (lT.setIfInBounds x false) x=true/\(kU .any ops (lT.setIfInBounds x false)).contains x=true/\(∀v c a w,Q (.panic c) (a.put W.dst v) w->Q (.panic c) a w)/\
  ∀a w z,E w0 (w,z)->(∀t,isDst ops l0 m t=false->a.eval (.tmp t)=a0.eval (.tmp t))->(∀j d,depO ops l0 x j d=true->G j (a.eval (.tmp d)) (w,z))-> ∃u,YieldsIf P ops S W u a/\G x u (w,z))
 (hE0:E w0 w0) (hE: ∀u v w,E u v->E v w->E u w) (hG: ∀i v w w',G i v w->E w w'->G i v w') (hS: ∀w z,E w0 (w,z)->S w)
 (M:StL P ops Q l0 m E G a0 w0 is)
 (fin: ∀(v:Nat->aU) w z,E w0 (w,z)->(∀j,j < m->isOn l0 j=false->G j (v j) (w,z))->jZ P .any ops Q S fT lT (W9 ops v (fun j=> !isOn l0 j) a0 m) w):
 jZ P .any ops Q S fuel l0 a0 w0.1:=by
 subst hlT;subst hfT;have vh:=Jz;unfold okX at vh;simp only[aX,decide_eq_true_eq,List.all_eq_true,List.mem_range,Bool.or_eq_true,iQ] at vh;obtain⟨⟨⟨⟨ft,Jj⟩,B⟩,hm⟩,C⟩:=vh;have qm: ∀i,i < ops.size-> ∀k∈j96 ops i,k < i:=fun i hi k hk=>(B i hi k hk).1
 have Lv: ∀i,isOn l0 i=true-> ∀k∈j96 ops i,isOn l0 k=true:=fun i hl k hk=> by
  by_cases hi:i < ops.size
  · exact(B i hi k hk).2.resolve_left (by rw[hl];decide)
  · unfold j96 at hk
    rw[show ops[i]? =none from Array.getElem?_eq_none (by omega)] at hk;simp at hk
 have hup: ∀i,m<=i->i < ops.size->isOn l0 i=false-> ∀j,j < m->j≠x->isOn l0 j=false->sl ops ops.size i j=true:=fun i K h2 hi j f V hl=> by
  have:=Jj (i - m) (by omega);rw[show m+(i - m)=i by omega] at this;have:=this.resolve_left (by rw[hi];decide) j f;exact this.resolve_left (fun h=> h.elim (fun h=> V (by simpa using h)) (fun h=> by rw[hl] at h;cases h))
 have O: ∀b:Array Bool,∀j,(isOn b j && !isOn l0 j)=true->isOn l0 j=false:=fun b j h=> by
  simp only[aX,iQ] at h;exact h.2
 have R: ∀(fuel:Nat) (b:Array Bool) (a:Act) (w:aN) (z:Γ) (v:Nat->aU),b.size=ops.size->(∀i,m<=i->isOn b i=isOn l0 i)->(∀i,isOn l0 i=true->isOn b i=true)->
  (∀i,isOn b i=true-> ∀k∈j96 ops i,isOn b k=true)->a=W9 ops v (fun j=> isOn b j && !isOn l0 j) a0 m->(∀j,j < m->isOn b j=true->isOn l0 j=false->G j (v j) (w,z))->E w0 (w,z)->
  fuel=opnO b ops.size->jZ P .any ops Q S fuel b a w:=by
  intro fuel;have done: ∀(fuel:Nat) (b:Array Bool) (a:Act) (w:aN) (z:Γ) (v:Nat->aU),b.size=ops.size->(∀i,m<=i->isOn b i=isOn l0 i)->a=W9 ops v (fun j=> isOn b j && !isOn l0 j) a0 m->(∀j,j < m->isOn b j=true->isOn l0 j=false->G j (v j) (w,z))->E w0 (w,z)->
   fuel=opnO b ops.size->(∀j,j < m->isOn b j=true)->jZ P .any ops Q S fuel b a w:=by
   intro fuel b a w z v r K D H A hf q;have hl:b=doneO l0 m:=by
    apply Array.ext
    · simp[doneO,r,C]
    · intro i U iw
      have e1:isOn b i=b[i]:=by simp[isOn,dU,U]
      have L:(doneO l0 m)[i]=(decide (i < m) ||isOn l0 i):=by simp[doneO]
      rw[<-e1,L];by_cases hi:i < m
      · rw[q i hi];simp[hi]
      · rw[K i (by omega)];simp[hi]
   subst hl;subst D;subst hf;rw[QE (v':=v) (s':=fun j=> !isOn l0 j) a0 (fun j f=>⟨by rw[q j f,Bool.true_and],fun _=> rfl⟩)];exact fin v w z A (fun j f hl=> H j f (q j f) hl)
  induction fuel with
  |zero=>
   intro b a w z v r K Z h2 D H A hf;refine done 0 b a w z v r K D H A hf fun j f=> ?_
   have: ∀n,opnO b n=0-> ∀j,j < n->isOn b j=true:=by
    intro n
    induction n with
    |zero=> intro _ j f;omega
    |succ n ih=>
     intro h j f;unfold opnO at h;by_cases e:j=n
     · subst e
       split at h
       · assumption
       · omega
     · exact ih (by omega) j (by omega)
   exact this ops.size hf.symm j (by omega)
  |succ fuel ih=>
   intro b a w z v r K Z h2 D H A hf;by_cases q: ∀j,j < m->isOn b j=true
   · exact done _ b a w z v r K D H A hf q
   by_cases g: ∀j,j < m->j≠x->isOn b j=true
   · have Mm:x < m:=by
      apply iU
      intro h;exact q fun j f=> g j f (by omega)
     obtain⟨W,Gr,E5,yr,hfr,I3,hQ,hX⟩:=hx Mm;have Mx:isOn b x=false:=by
      cases J:isOn b x with
      |false=> rfl
      |true=> exact absurd (fun j f=> if e:j=x then e▸J else g j f e) q
     have hl:b=(doneO l0 m).setIfInBounds x false:=by
      apply Array.ext
      · simp[doneO,r,C]
      · intro i U iw
        have e1:isOn b i=b[i]:=by simp[isOn,dU,U]
        have qj:i <(doneO l0 m).size:=by simpa using iw
        have L:(doneO l0 m)[i]=(decide (i < m) ||isOn l0 i):=by simp[doneO]
        rw[<-e1];by_cases e:i=x
        · subst e
          rw[Mx];simp
        · rw[kQ qj (Ne.symm e),L]
          by_cases hi:i < m
          · rw[g i hi e];simp[hi]
          · rw[K i (by omega)];simp[hi]
     have F:b.setIfInBounds x true=doneO l0 m:=by
      rw[hl]
      apply Array.ext
      · simp
      · intro i U iw
        have L:(doneO l0 m)[i]=(decide (i < m) ||isOn l0 i):=by simp[doneO]
        by_cases e:i=x
        · subst e
          rw[L];simp[Mm]
        · rw[kQ (by simpa using U) (Ne.symm e),kQ iw (Ne.symm e)]
     have hd:(dstOf ops x)=W.dst:=by unfold dstOf;rw[Gr];rfl
     have hsx:(isOn b x && !isOn l0 x)=false:=by rw[Mx];rfl
     obtain⟨u,hy,hgx⟩:=hX a w z A (by
      intro t ht;rw[D,Rv];intro j f hs e;unfold isDst at ht;rw[jV] at ht;refine ht j (List.mem_range.2 f) ?_;rw[O b j hs,e];simp) (by
      intro j d y;unfold depO at y;simp only[aX,beq_iff_eq,List.contains_iff_mem,iQ] at y;have hji:=qm x (by omega) j y.1.1;have I:=g j (by omega) (by omega);rw[D,Zv ft v _ (O b) a0 hN y.1.2 (by rw[I,y.2];rfl) (by omega) (aP _)];exact H j (by omega) I y.2)
     have hfu:fuel=opnO (doneO l0 m) ops.size:=by
      have:=Bw (l:=b) (l':=b.setIfInBounds x true) (i:=x) Mx (by
       unfold isOn;simp[dU,show x < b.size by omega]) (fun j f=> by
       unfold isOn;simp[dU,Array.getElem?_setIfInBounds_ne (Ne.symm f)]) (n:=ops.size)
      rw[if_pos (by omega),F] at this;omega
     refine wpAnyH_take (v:=u) Gr yr (hl▸hfr) (hl▸I3) (hQ u) hy (hS _ _ A) ?_;rw[F,hfu,D,<-hd,<-Xx ft (s:=fun j=> isOn b j && !isOn l0 j) a0 (O b) hsx E5 u Mm (aP _)];rw[QE (v':=fun j=> if j=x then u else v j) (s':=fun j=> !isOn l0 j) a0 (fun j f=>⟨by
      by_cases e:j=x
      · simp only[if_pos e];rw[e,E5];rfl
      · simp only[if_neg e];rw[g j f e,Bool.true_and],fun _=> rfl⟩)]
     refine fin _ w z A fun j f I=> ?_
     by_cases e:j=x
     · simp only[if_pos e];rw[e];exact hgx
     · simp only[if_neg e];exact H j f (g j f e) I
   · obtain⟨j1,hj11,Lp,Hi⟩:=mu (p:=isOn b) (n:=m) (by
      apply iU
      intro h;exact q fun j f=> by
       cases J:isOn b j with
       |true=> rfl
       |false=> exact absurd ⟨j,f,J⟩ h)
     obtain⟨T,km,V,pz⟩: ∃j,j < m/\j≠x/\isOn b j=false:=by
      apply iU
      intro h;exact g fun j f V=> by
       cases J:isOn b j with
       |true=> rfl
       |false=> exact absurd ⟨j,f,V,J⟩ h
     have gt: ∀i,i < ops.size->b.getD i true=isOn b i:=fun i hi=> by
      simp[isOn,dU,show i < b.size by omega]
     refine⟨fun h0=> ?_,fun i hi=> ?_⟩
     · have hr:j1∈kU .any ops b:=YH (by omega) (by rw[gt _ (by omega)];exact Lp) (fun k hk=> Hi k (qm j1 (by omega) k hk))
       rw[h0] at hr;cases hr
     · obtain⟨r1,⟨o,ho⟩,r3⟩:=LH hi
       have d6:i < ops.size:=(Array.getElem?_eq_some_iff.1 ho).1;have W6:isOn b i=false:=by rw[<-gt i d6];exact r1
       have Gq:isOn l0 i=false:=by
        cases J:isOn l0 i with
        |false=> rfl
        |true=> rw[Z i J] at W6;cases W6
       have Ln:isOn l0 T=false:=by
        cases J:isOn l0 T with
        |false=> rfl
        |true=> rw[Z T J] at pz;cases pz
       have Y:i < m:=by
        apply iU
        intro ze;have:=IE (l:=isOn b) h2 ops.size i T r3 (hup i (by omega) d6 Gq T km V Ln);rw[pz] at this;cases this
       obtain⟨o',Fi,hst⟩:=M.get (i:=i) (his▸List.mem_filter.2 ⟨List.mem_range.2 Y,by rw[Gq];rfl⟩);obtain rfl:o'=o:=by rw[ho] at Fi;exact(Option.some.inj Fi).symm
       have hd:(dstOf ops i)=o'.dst:=by unfold dstOf;rw[ho];rfl
       have hsi:(isOn b i && !isOn l0 i)=false:=by rw[W6];rfl
       refine wpOp_mono ?_ (hst a w z A ?_ ?_)
       · rintro a' w' ⟨u,z',rfl,zo,vy⟩
         have F: ∀j,isOn (b.setIfInBounds i true) j=if j=i then true else isOn b j:=fun j=> by
          unfold isOn;by_cases e:j=i
          · subst e
            rw[if_pos rfl];simp[dU,show j < b.size by omega]
          · rw[if_neg e]
            simp[dU,Array.getElem?_setIfInBounds_ne (Ne.symm e)]
         refine⟨hS _ _ (hE _ _ _ A zo),ih (b.setIfInBounds i true) _ w' z' (fun j=> if j=i then u else v j) (by simpa using r) ?_ ?_ ?_ ?_ ?_ (hE _ _ _ A zo) ?_⟩
         · intro j f
           rw[F,if_neg (by omega)];exact K j f
         · intro j f
           rw[F]
           split
           · rfl
           · exact Z j f
         · intro j f k hk
           rw[F] at f⊢;by_cases e:k=i
           · rw[if_pos e]
           · rw[if_neg e]
             by_cases L:j=i
             · subst L;exact r3 k hk
             · rw[if_neg L] at f
               exact h2 j f k hk
         · rw[D,<-hd,<-Xx ft (s:=fun j=> isOn b j && !isOn l0 j) a0 (O b) hsi Gq u Y (aP _)]
           refine QE a0 (fun j f=>⟨?_,fun _=> rfl⟩);simp only[F];by_cases e:j=i
           · rw[if_pos e,if_pos e,e,Gq];rfl
           · rw[if_neg e,if_neg e]
         · intro j f hl I
           by_cases e:j=i
           · simp only[if_pos e];rw[e];exact vy
           · simp only[if_neg e]
             rw[F,if_neg e] at hl;exact hG _ _ _ _ (H j f hl I) zo
         · have:=Bw (l:=b) (l':=b.setIfInBounds i true) (i:=i) W6 (by rw[F,if_pos rfl]) (fun j f=> by rw[F,if_neg f]) (n:=ops.size)
           rw[if_pos d6] at this;omega
       · intro t ht
         rw[D,Rv];intro j f hs e;unfold isDst at ht;rw[jV] at ht;refine ht j (List.mem_range.2 f) ?_;rw[O b j hs,e];simp
       · intro j d y
         unfold depO at y;simp only[aX,beq_iff_eq,List.contains_iff_mem,iQ] at y;have I:=r3 j y.1.1;have hji:=qm i d6 j y.1.1;rw[D,Zv ft v _ (O b) a0 hN y.1.2 (by rw[I,y.2];rfl) (by omega) (aP _)];exact H j (by omega) I y.2
 refine R fuel l0 a0 w0.1 w0.2 (fun _=> mR) C (fun _ _=> rfl) (fun _ h=> h) Lv ?_ ?_ hE0 hf
 · have: ∀n,W9 ops (fun _=> mR) (fun j=> isOn l0 j && !isOn l0 j) a0 n=a0:=fun n=> by
    induction n with
    |zero=> rfl
    |succ n ih=>
     unfold W9;rw[if_neg,ih];simp
   exact(this m).symm
 · intro j f hl X
   rw[hl] at X;cases X
end
theorem JC{ops:Array Oper}{v:Nat->aU}{s:Nat->Bool}{a:Act}: ∀{n:Nat},W9 ops v s a n=((iX n).filter s).foldl (fun a j=> a.put (dstOf ops j) (v j)) a
 |0=> rfl
 |n+1=> by
  unfold W9;rw[List.range_succ,List.filter_append,List.foldl_append,JC];by_cases h:s n=true
  · rw[if_pos h];simp[h]
  · rw[if_neg h];simp[h]
theorem putN_l{ops:Array Oper}{v:Nat->aU}{s:Nat->Bool}{a:Act}{n:Nat}(is:List Nat)(h:(iX n).filter s=is):W9 ops v s a n=is.foldl (fun a j=> a.put (dstOf ops j) (v j)) a:=by rw[JC,h]
end Go.Proofs.YtckhbnmfnpolgaaGreat.Ord
namespace Go.Proofs.YtckhbnmfnpolgaaGreat
open Go Go.RowKit
theorem v4{a:Act}{t:Nat}{v:aU}(h:a.eval (.tmp t)=v):a.tmps[t]?.getD mR=v:=by
 rw[<-h];exact(dU ..).symm
def xB(W w:aN)(g:Nat):Prop:=W.heap.size<=g/\w.heap[g]? =some (.cells #[.int .i64 0,.int .i64 0,.slice none 0 0] 25 (0,0))
inductive Sp where
 |any
 |val (u:aU)
 |tree (M:Nat->Prop) (t:Tr)
 |row (M:Nat->Prop) (ts:List Tr)
 |two (M:Nat->Prop) (t:Tr) (c:aU)
 |box (W:aN)
theorem InK.news{w:aN}{M:Nat->Prop}{e:bU}{t:Tr}{v0 v1 v2:aU}(h:InT w M t (.agg #[v0,v1,v2]))(a:M w.heap.size):InK (w.alloc (.cells #[v0,v1,v2] e)) M (some ⟨w.heap.size,0,none⟩) [t]:=
 .inr ⟨w.heap.size,0,rfl,a,⟨⟨v0,v1,v2,E1 (aT w _) 0,E1 (aT w _) 1,E1 (aT w _) 2,h.later ((xr w).alloc _)⟩,trivial⟩⟩
theorem InK.news2{w:aN}{M:Nat->Prop}{e:bU}{t u:Tr}{v0 v1 v2 b c a:aU}(h:InT w M t (.agg #[v0,v1,v2]))(k:InT w M u (.agg #[b,c,a]))(d:M w.heap.size):InK (w.alloc (.cells #[v0,v1,v2,b,c,a] e)) M (some ⟨w.heap.size,0,none⟩) [t,u]:=
 .inr ⟨w.heap.size,0,rfl,d,⟨⟨v0,v1,v2,E1 (aT w _) 0,E1 (aT w _) 1,E1 (aT w _) 2,h.later ((xr w).alloc _)⟩,⟨b,c,a,E1 (aT w _) 3,E1 (aT w _) 4,E1 (aT w _) 5,k.later ((xr w).alloc _)⟩,trivial⟩⟩
theorem InK.news3{w:aN}{M:Nat->Prop}{e:bU}{t u x:Tr}{v0 v1 v2 d a c b g f:aU}(h:InT w M t (.agg #[v0,v1,v2]))(k:InT w M u (.agg #[d,a,c]))(l:InT w M x (.agg #[b,g,f]))(i:M w.heap.size):InK (w.alloc (.cells #[v0,v1,v2,d,a,c,b,g,f] e)) M (some ⟨w.heap.size,0,none⟩) [t,u,x]:=
 .inr ⟨w.heap.size,0,rfl,i,⟨⟨v0,v1,v2,E1 (aT w _) 0,E1 (aT w _) 1,E1 (aT w _) 2,h.later ((xr w).alloc _)⟩,⟨d,a,c,E1 (aT w _) 3,E1 (aT w _) 4,E1 (aT w _) 5,k.later ((xr w).alloc _)⟩,⟨b,g,f,E1 (aT w _) 6,E1 (aT w _) 7,E1 (aT w _) 8,l.later ((xr w).alloc _)⟩,trivial⟩⟩
def EG(x y:aN×List Nat):Prop:=Ext x.1 y.1/\(∀g,g∈x.2->g∈y.2)/\(∀g,g∈y.2->g∈x.2\/x.1.heap.size<=g)/\ ∀g,g∈y.2->g < y.1.heap.size
theorem EG.start(w:aN):EG (w, []) (w, []):=⟨xr _,fun _ h=> h,fun g h=> .inl h,fun g h=> by cases h⟩
theorem EG.trans{x y z:aN×List Nat}(h:EG x y)(k:EG y z):EG x z:=by
 refine⟨h.1.trans k.1,fun g a=> k.2.1 g (h.2.1 g a),fun g a=> ?_,k.2.2.2⟩;rcases k.2.2.1 g a with e|e
 · exact h.2.2.1 g e
 · exact .inr (bM h.1.size e)
theorem E9{x:aN×List Nat}{w a:aN}{z:List Nat}(h:EG x (w,z))(e:Ext w a):EG (w,z) (a,z):=
 ⟨e,fun _ h=> h,fun _ h=> .inl h,fun g b=> aZ (h.2.2.2 g b) e.size⟩
theorem EG.id{x:aN×List Nat}{w:aN}{z:List Nat}(h:EG x (w,z)):EG (w,z) (w,z):=E9 h (xr _)
theorem EG.box{x:aN×List Nat}{w:aN}{o:Obj}{z:List Nat}(h:EG x (w,z)):EG (w,z) (w.alloc o,w.heap.size::z):=by
 refine⟨(xr _).alloc _,fun _ h=> List.mem_cons_of_mem _ h,fun g a=> ?_,fun g a=> ?_⟩
 · rcases List.mem_cons.1 a with rfl|a
   · exact .inr (aP _)
   · exact .inl a
 · have:(w.alloc o).heap.size=w.heap.size+1:=by simp
   rcases List.mem_cons.1 a with rfl|a
   · show w.heap.size <(w.alloc o).heap.size;omega
   · have:=h.2.2.2 g a;show g <(w.alloc o).heap.size;simp only at this;omega
def Mz(M:Nat->Prop)(z:List Nat)(b:Nat):Prop:=M b/\ ¬b∈z
theorem Mz.later{M:Nat->Prop}{x y:aN×List Nat}(h:EG x y){b:Nat}(a:Mz M x.2 b/\b < x.1.heap.size):Mz M y.2 b:=by
 refine⟨a.1.1,fun e=> ?_⟩;rcases h.2.2.1 b e with f|f
 · exact a.1.2 f
 · have:=a.2
   omega
theorem InT.laterG{M:Nat->Prop}{x y:aN×List Nat}{t:Tr}{v:aU}(h:InT x.1 (Mz M x.2) t v)(e:EG x y):InT y.1 (Mz M y.2) t v:=
 InT.mono (fun b a=> Mz.later e a) (fun _ _=> rfl) (h.bound.later e.1)
theorem InK.laterG{M:Nat->Prop}{x y:aN×List Nat}{A:Option Addr}{a:List Tr}(h:InK x.1 (Mz M x.2) A a)(e:EG x y):InK y.1 (Mz M y.2) A a:=
 InK.mono (fun b c=> Mz.later e c) (fun _ _=> rfl) (h.bound.later e.1)
theorem InT.oldG{M:Nat->Prop}{W w:aN}{z:List Nat}{t:Tr}{v:aU}(h:InT W M t v)(e:EG (W.drew, []) (w,z)):InT w (Mz M z) t v:=
 InT.laterG (x:=(W.drew, [])) (y:=(w,z)) (InT.mono (fun b a=>⟨a,fun h=> by cases h⟩) (fun _ _=> rfl) (InT.later h (xr W).drew)) e
theorem EG.news{M:Nat->Prop}{x:aN×List Nat}{w:aN}{z:List Nat}(h:EG x (w,z))(c: ∀b,w.heap.size<=b->M b): ∀b,w.heap.size<=b->Mz M z b:=
 fun b a=>⟨c b a,fun e=> by have:=h.2.2.2 b e;simp only at this;omega⟩
theorem Tq{P:fM}{ops:Array Oper}{Q:Exit->Act->aN->Prop}{i j:Nat}{o:Oper}{a:Act}{w:aN}{R:Act->aN->Prop}{y b:Bool}{d:Nat}(l:ops[i]? =some o)(p:o.guard=some (j,y))(g:Ord.dstOf ops j=some d)(hv:a.eval (.tmp d)= .bool b)
 (q:b=y-> ∀K:Act->aN->Prop,(∀f c,R f c->K f c)->o.wp P a w K Q) (n: ¬b=y->R (a.put o.dst mR) w):wpOp P ops Q i R a w:=by
 have hs:a.tmps[d]? =some (.bool b):=by
  rw[show a.eval (.tmp d)=a.tmps.getD d mR from rfl,dU] at hv;cases h:a.tmps[d]?with
  |none=> rw[h] at hv;cases hv
  |some x=> rw[h] at hv;simp only[kP] at hv;rw[hv]
 have k:yielded ops a.tmps j=some b:=by
  unfold yielded;rw[show((ops[j]?).bind fun x=> x.dst)=some d from g];simp only[Option.bind_some,hs]
 unfold wpOp;rw[l];simp only;unfold eX;rw[p];simp only[k];by_cases e:b=y
 · rw[if_pos (by simp[e])]
   exact .inl (q e R fun _ _ h=> h)
 · rw[if_neg (by simpa using e)]
   exact n e
def Sp.holdsG:Sp->aU->aN×List Nat->Prop
 | .any,_,_=> True
 | .val u,v,_=> v=u
 | .tree M t,v,x=> InT x.1 (Mz M x.2) t v
 | .row M ts,v,x=> ∃A c,v= .slice A ts.length c/\ts.length<=c/\c<=maxLen/\InK x.1 (Mz M x.2) A ts
 | .two M t c,v,x=> ∃u,v= .tuple #[u,c]/\InT x.1 (Mz M x.2) t u
 | .box W,v,x=> ∃g,v= .pointer (some ⟨g,0,none⟩)/\g∈x.2/\xB W x.1 g
theorem Sp.extG: ∀{s:Sp} {v:aU} {x y:aN×List Nat},s.holdsG v x->EG x y->s.holdsG v y
 | .any,_,_,_,_,_=> trivial
 | .val u,_,_,_,h,_=> h
 | .tree M t,_,_,_,h,e=> InT.laterG h e
 | .row M ts,_,_,_,h,e=> by
  obtain⟨A,c,b,a,d,i⟩:=h;exact⟨A,c,b,a,d,InK.laterG i e⟩
 | .two M t c,_,_,_,h,e=> by
  obtain⟨u,b,a⟩:=h;exact⟨u,b,InT.laterG a e⟩
 | .box W,_,_,_,h,e=> by
  obtain⟨g,b,f,a,d⟩:=h;exact⟨g,b,e.2.1 g f,a,e.1.blk d⟩
def dd(l:List Sp)(i:Nat)(v:aU)(x:aN×List Nat):Prop:=(l.getD i .any).holdsG v x
theorem eF(l:List Sp): ∀i v x y,dd l i v x->EG x y->dd l i v y:=fun i v x y h e=> Sp.extG h e
theorem Ci{P:fM}{ops:Array Oper}{Q:Exit->Act->aN->Prop}{S:aN->Prop}{l0:Array Bool}{a0:Act}{fuel:Nat}{W:aN}(m N:Nat)(lT:Array Bool)(d:Nat)(l:List Sp)(is:List Nat)(hS: ∀w,Ext W w->S w)(hc:(((iX m).filter (fun j=> !Ord.isOn l0 j)==is)&& Ord.okX ops l0 m N m && fuel==Ord.opnO l0 ops.size && Ord.doneO l0 m==lT && Ord.opnO lT ops.size==d)=true)(hN:a0.tmps.size=N)
 (b:Ord.StL P ops Q l0 m EG (dd l) a0 (W, []) is)
 (fin: ∀(v:Nat->aU) w z,EG (W, []) (w,z)->(∀j,j < m->Ord.isOn l0 j=false->dd l j (v j) (w,z))->jZ P .any ops Q S d lT (is.foldl (fun a j=> a.put (Ord.dstOf ops j) (v j)) a0) w):
 jZ P .any ops Q S fuel l0 a0 W:=by
 simp only[aX,beq_iff_eq] at hc;obtain⟨⟨⟨⟨c,n⟩,i⟩,e⟩,f⟩:=hc;exact Ord.wpAnyH_orderX (w0:=(W, [])) c n hN i e f (fun h=> absurd h (Nat.lt_irrefl _)) (EG.start _) (fun _ _ _ h g=> h.trans g) (eF _) (fun w z h=> hS w h.1) b (fun v w z h k=> by rw[Ord.putN_l is c];exact fin v w z h k)
theorem fk{P:fM}{ops:Array Oper}{Q:Exit->Act->aN->Prop}{S:aN->Prop}{l0:Array Bool}{a0:Act}{fuel:Nat}{e:Oper}{W:aN}(m N x:Nat)(lT:Array Bool)(g:Nat)(l:List Sp)(is:List Nat)(hS: ∀w,Ext W w->S w)(hc:(((iX m).filter (fun j=> !Ord.isOn l0 j)==is)&& Ord.okX ops l0 m N x && fuel==Ord.opnO l0 ops.size && Ord.doneO l0 m==lT && Ord.opnO lT ops.size==g && !Ord.isOn l0 x && Region.noSelect ops && Region.free .any ops (lT.setIfInBounds x false) x &&(kU .any ops (lT.setIfInBounds x false)).contains x)=true)(hN:a0.tmps.size=N)
 (B:ops[x]? =some e) (r: ∀v c a w,Q (.panic c) (a.put e.dst v) w->Q (.panic c) a w)
 (y: ∀a w z,EG (W, []) (w,z)->(∀t,Ord.isDst ops l0 m t=false->a.eval (.tmp t)=a0.eval (.tmp t))->(∀j d,Ord.depO ops l0 x j d=true->dd l j (a.eval (.tmp d)) (w,z))-> ∃u,YieldsIf P ops S e u a/\dd l x u (w,z))
 (b:Ord.StL P ops Q l0 m EG (dd l) a0 (W, []) is)
 (fin: ∀(v:Nat->aU) w z,EG (W, []) (w,z)->(∀j,j < m->Ord.isOn l0 j=false->dd l j (v j) (w,z))->jZ P .any ops Q S g lT (is.foldl (fun a j=> a.put (Ord.dstOf ops j) (v j)) a0) w):
 jZ P .any ops Q S fuel l0 a0 W:=by
 simp only[aX,beq_iff_eq,iQ] at hc;obtain⟨⟨⟨⟨⟨⟨⟨⟨f,C⟩,s⟩,i⟩,n⟩,A⟩,p⟩,h8⟩,o⟩:=hc;exact Ord.wpAnyH_orderX (w0:=(W, [])) f C hN s i n (fun _=>⟨e,B,A,p,h8,o,r,y⟩) (EG.start _) (fun _ _ _ h q=> h.trans q) (eF _) (fun w z h=> hS w h.1) b (fun v w z h k=> by rw[Ord.putN_l is f];exact fin v w z h k)
theorem EG.ext{W w:aN}{z:List Nat}(h:EG (W, []) (w,z)):Ext W w:=h.1
theorem InT.oldG'{M:Nat->Prop}{W w:aN}{z:List Nat}{t:Tr}{v:aU}(h:InT W M t v)(e:EG (W, []) (w,z)):InT w (Mz M z) t v:=
 InT.laterG (x:=(W, [])) (y:=(w,z)) (InT.mono (fun b a=>⟨a,fun h=> by cases h⟩) (fun _ _=> rfl) h) e
theorem InK.oldG'{M:Nat->Prop}{W w:aN}{z:List Nat}{A:Option Addr}{a:List Tr}(h:InK W M A a)(e:EG (W, []) (w,z)):InK w (Mz M z) A a:=
 InK.laterG (x:=(W, [])) (y:=(w,z)) (InK.mono (fun b c=>⟨c,fun h=> by cases h⟩) (fun _ _=> rfl) h) e
theorem ck{l:List Sp}{j t:Nat}{a:Act}{u:aU}{x:aN×List Nat}(h:dd l j (a.eval (.tmp t)) x)(e:l.getD j .any= .val u):a.tmps[t]?.getD mR=u:=by
 unfold dd at h;rw[e] at h;exact v4 h
theorem Mc{M:Nat->Prop}{W w:aN}{z:List Nat}(hN: ∀b,W.heap.size<=b->M b)(h:EG (W, []) (w,z)): ∀b,w.heap.size<=b->Mz M z b:=EG.news h fun b a=> hN b (bM h.1.size a)
theorem Off.new3{W w:aN}{g:Nat}{i j d:aU}{e:bU}(X:Ext W w)(f:W.heap.size<=g)(h:w.heap[g]? =some (.cells #[i,j,d] e (0,0)))(a c b:aU):
 Ext W (((w.setCell ⟨g,0,none⟩ a).setCell ⟨g,1,none⟩ c).setCell ⟨g,2,none⟩ b)/\(((w.setCell ⟨g,0,none⟩ a).setCell ⟨g,1,none⟩ c).setCell ⟨g,2,none⟩ b).heap[g]? =some (.cells #[a,c,b] e (0,0)):=
 ⟨X.set3 f _ _ _,b6 (b6 (b6 h 0 a) 1 c) 2 b⟩
theorem kp{w a:aN}{g r:Nat}{o:Obj}(X:Ext w a)(b:a.heap.size<=g)(h:w.heap[r]? =some o):g≠r:=by
 have:=X.size;have:=D1 h;omega
