/- Lemmas towards the law. -/
import Derived.Test.YtckhbnmfnpolgaaGreatTBL
open Nat renaming le_refl->aP,lt_of_lt_of_le->aZ,le_succ->aR
open Go renaming World->aN,wpAnyH_done->bO,results->aS
open Go.World renaming alloc->aO,setCell->bT
open Go.Proofs.Tryz
set_option linter.all false
set_option maxHeartbeats 40000000
set_option maxRecDepth 100000
namespace Go.Proofs.YtckhbnmfnpolgaaGreat
open Go.RowKit
open M (Hd HR Cv Ty j2 rc a7 O5 dep DG fvb)
def Xi(b c a d e:Tr):Tr:= .mk 12 0 [.mk 4 0 [b,.mk 10 0 [c,a,.mk 1 0 []]],e,d]
def zs(s u d e:Tr):Tr:=Xi (kd u.kids 0) (shfT 1 (kd s.kids 0) 0) (shfT 1 (kd s.kids 1) 0) d e
def ij(c:Int)(x:An):An:=if c=0 then x else some (D2,c)
def Uc(I J:Tr->An)(P:Tr->An)(d e:Tr):An:=thn (Q0 (I d) 10) fun s=> thn (Q0 (J e) 10) fun u=> ij (W3 (kd s.kids 0) (kd u.kids 0)) (ij (W3 (kd s.kids 2) (kd u.kids 1)) (P (zs s u d e)))
def Sd(T2 T l d y:M.Tm):M.Tm:= .move (.lam T2 (.id (M.Tm.wk T) (M.Tm.wk l) (.var 0))) y d
theorem WF(T l r T2 l2 r2 d y:M.Tm):zs (enc (.id T l r)) (enc (.id T2 l2 r2)) (enc d) (enc y)=enc (Sd T2 T l d y):=by
 show Xi (enc T2) (shfT 1 (enc T) 0) (shfT 1 (enc l) 0) (enc d) (enc y)=_
 rw[ao,ao]
 rfl
section
variable {G : List M.Tm} {d y T l r T2 l2 r2 : M.Tm}
theorem nK(h:Gb G d T l r)(c:Cv T2 T): ∃j,j<=3/\Ty (T2::G) (.id (M.Tm.wk T) (M.Tm.wk l) (.var 0)) (.sort j)/\j2 (T2::G) (.id (M.Tm.wk T) (M.Tm.wk l) (.var 0)):=by
 obtain⟨j,g,S,e,f⟩:=h.hT;obtain⟨B,b,i⟩:=h.hl;have a:=h.hG.wf.wf;exact⟨j,g,.id (e.wk T2) (f.ren _) (b.wk T2) (i.ren _) (.var (M.lk_zero T2 G)) (c.ren _),j2.ren e a (M.RenOk.wk T2 G) h.lT,j2.ren b a (M.RenOk.wk T2 G) h.ll,trivial⟩
theorem Lw(h:Gb G d T l r)(k:Gb G y T2 l2 r2)(c:Cv T2 T)(v:valid sigT (enc (Sd T2 T l d y))=true):Ag G (Sd T2 T l d y):=by
 have hl:G.length<=20:=by have:=h.h8;omega
 have v1:valid sigT (enc (.lam T2 (.id (M.Tm.wk T) (M.Tm.wk l) (.var 0))))=true:=Z0 v (by simp[Sd]);have e:valid sigT (enc T2)=true:=Z0 v1 (by simp);obtain⟨j,q,n,p⟩:=nK h c;obtain⟨E,g,-⟩:=h.hE;obtain⟨u,m,-⟩:=k.hE;obtain⟨i,hi,S,o,s⟩:=k.hT;exact k7 h.hG hl _ v ⟨k7 h.hG hl _ v1 ⟨fun f a=> vm h.hG hl e o k.lT,fun b t f a=> vm (h.hG.cons b e) (by simp only[List.length_cons];omega) (Z0 v1 (by simp)) n p⟩ trivial,fun f a=> vm h.hG hl k.ve m k.le,fun f a=> vm h.hG hl h.ve g h.le⟩ (.inr (li.of h.hG h.ve g h.le))
theorem Qr(k:Gb G y T2 l2 r2){A:M.Tm}(q:Ty G (Sd T2 T l d y) A):Cv A (.id T l r2):=by
 cases q with
 |move a c g m f i n j=>
  obtain⟨E,b,e⟩:=k.hE;obtain rfl:=b.det a;obtain⟨rfl,rfl,rfl⟩:=e.id_det c;have:=(HR.one (Hd.beta T2 (.id (M.Tm.wk T) (M.Tm.wk l) (.var 0)) r2)).cv;rw[show(M.Tm.id (M.Tm.wk T) (M.Tm.wk l) (.var 0)).inst r2= .id ((M.Tm.wk T).inst r2) ((M.Tm.wk l).inst r2) r2 from rfl,M.Tm.wk_inst,M.Tm.wk_inst] at this;exact this
theorem zK(h:Gb G d T l r)(k:Gb G y T2 l2 r2)(c:Cv T2 T){A:M.Tm}(q:Ty G (Sd T2 T l d y) A)(a:j2 G (Sd T2 T l d y))(v:valid sigT (enc (Sd T2 T l d y))=true)(m:valid sigT (enc (.id T l r2))=true)(f:Nat):Nb (Ys f (ctxE G) (enc (Sd T2 T l d y)) (enc (.id T l r2))):=by
 obtain⟨j,e,S,n,g⟩:=h.hT;obtain⟨B,i,o⟩:=h.hl;obtain⟨C,b,p⟩:=k.hr;exact Sj h.hG h.h8 v m q a (Qr k q) ⟨⟨h.lT,h.ll,k.lr⟩,j,e,_,.id n g i o b (p.trans c),.refl _⟩
end
theorem wn{ctx:List Tr}{d y:Tr}(hd: ∃f i r,Q0 (pc f ctx d) 10=some r/\Q0 (Ra i ctx d) 10=some r)(O: ∃f i r,Q0 (pc f ctx y) 10=some r/\Q0 (Ra i ctx y) 10=some r):
 ∃f g p i k o q a r2,Uc (pc f ctx) (pc g ctx) (Re p ctx) d y=some q/\Uc (Ra i ctx) (Ra k ctx) (zd o ctx) d y=some q/\Q0 (Ra i ctx d) 10=some a/\Q0 (Ra k ctx y) 10=some r2/\
 (q.2=0->a.2=0/\r2.2=0/\ ∃f x,Ys f ctx q.1 (.mk 10 0 [kd a.1.kids 0,kd a.1.kids 1,kd r2.1.kids 2])=some x/\(valid sigT (.mk 10 0 [kd a.1.kids 0,kd a.1.kids 1,kd r2.1.kids 2])=true->x.2=0\/x.2=2)):=by
 obtain⟨f,i,⟨s,c⟩,v,j⟩:=hd;obtain⟨g,k,⟨u,b⟩,z,n⟩:=O;have base: ∀x H:Tr->An,∀q,(∀P,Uc (pc f ctx) (pc g ctx) P d y=some q)->(∀P,Uc (Ra i ctx) (Ra k ctx) P d y=some q)->q.2≠0-> ∃f g p i k o q a r2,Uc (pc f ctx) (pc g ctx) (Re p ctx) d y=some q/\Uc (Ra i ctx) (Ra k ctx) (zd o ctx) d y=some q/\Q0 (Ra i ctx d) 10=some a/\Q0 (Ra k ctx y) 10=some r2/\
  (q.2=0->a.2=0/\r2.2=0/\ ∃f x,Ys f ctx q.1 (.mk 10 0 [kd a.1.kids 0,kd a.1.kids 1,kd r2.1.kids 2])=some x/\(valid sigT (.mk 10 0 [kd a.1.kids 0,kd a.1.kids 1,kd r2.1.kids 2])=true->x.2=0\/x.2=2)):=
  fun x H q B C K=>⟨f,g,0,i,k,0,q,_,_,B _,C _,j,n,fun h=> absurd h K⟩
 by_cases hc:c=0
 · subst hc
   by_cases w:b=0
   · subst w
     obtain⟨G,e,T,l,r,rfl,rfl,rfl,hS⟩:=uC j;obtain⟨Z,y,T2,l2,r2,S,rfl,rfl,D⟩:=uC n;cases Wq S
     have red: ∀(I J P:Tr->An),Q0 (I (enc e)) 10=some (enc (.id T l r),0)->Q0 (J (enc y)) 10=some (enc (.id T2 l2 r2),0)->Uc I J P (enc e) (enc y)=ij (W3 (enc T) (enc T2)) (ij (W3 (enc r) (enc l2)) (P (enc (Sd T2 T l e y)))):=fun I J P B C=> by
      unfold Uc;rw[B,C,<-WF T l r T2 l2 r2]
      rfl
     by_cases m:W3 (enc T) (enc T2)=0
     · by_cases t:W3 (enc r) (enc l2)=0
       · have E:Cv T2 T:=(vv m).symm
         obtain⟨s0,U,-⟩:=vf j;obtain⟨p,o,q,R,W,F⟩:=pB (x:=Sd T2 T l e y) U hS.hG (Lw hS D E);refine⟨f,g,p,i,k,o,q,_,_, ?_, ?_,j,n,fun Q=>⟨rfl,rfl, ?_⟩⟩
         · rw[red _ _ _ v z];unfold ij;rw[if_pos m,if_pos t];exact R
         · rw[red _ _ _ j n];unfold ij;rw[if_pos m,if_pos t];exact W
         · obtain⟨L,A,X,Y,N⟩:=F Q
           rw[L];obtain⟨fc,V⟩:=FK (ctxE G) (enc (Sd T2 T l e y)) (enc (.id T l r2));obtain⟨x,hx⟩:=V fc (aP _);exact⟨fc,x,hx,fun hv=> zK hS D E X Y N hv fc _ _ hx⟩
       · exact base (fun _=> none) (fun _=> none) (D2,W3 (enc r) (enc l2)) (fun P=> by rw[red _ _ _ v z];unfold ij;rw[if_pos m,if_neg t]) (fun P=> by rw[red _ _ _ j n];unfold ij;rw[if_pos m,if_neg t]) t
     · exact base (fun _=> none) (fun _=> none) (D2,W3 (enc T) (enc T2)) (fun P=> by rw[red _ _ _ v z];unfold ij;rw[if_neg m]) (fun P=> by rw[red _ _ _ j n];unfold ij;rw[if_neg m]) m
   · exact base (fun _=> none) (fun _=> none) (D2,b) (fun P=> by unfold Uc;rw[v,z];unfold thn;simp[w]) (fun P=> by unfold Uc;rw[j,n];unfold thn;simp[w]) w
 · exact base (fun _=> none) (fun _=> none) (D2,c) (fun P=> by unfold Uc;rw[v];unfold thn;simp[hc]) (fun P=> by unfold Uc;rw[j];unfold thn;simp[hc]) hc
theorem RJ{ctx:List Tr}{a:M.Tm}(hs:SD ctx)(h:SG a): ∃f c r,Q0 (pc f ctx (enc a)) 10=some r/\Q0 (Ra c ctx (enc a)) 10=some r:=
 nD hs fun D b _ e _ _=> .inl (wd e▸h)
theorem UJ{ctx:List Tr}{T l a:M.Tm}(hs:SD ctx)(h:oo T l a): ∃f e r,Q0 (pc f ctx (enc (I4 T l a))) 10=some r/\Q0 (Ra e ctx (enc (I4 T l a))) 10=some r:=by
 obtain⟨f,p⟩:=kD ctx (enc (I4 T l a));obtain⟨e,n⟩:=Yx ctx (enc (I4 T l a));obtain⟨⟨s,c⟩,i⟩:=p.frm 10;obtain⟨⟨j,o⟩,g⟩:=(n e (aP _)).frm 10;have hr:Rl False (pc f ctx (enc (I4 T l a))) (Ra e ctx (enc (I4 T l a))):=Vt hs fun G b m k hG h8 hv=> by
  subst m;cases wd k
  exact h.ag hG hs.dg h8 hv
 rcases(hr.frm 10) s c j o i g with⟨rfl,rfl⟩ |⟨h,-⟩
 · exact⟨f,e,_,i,g⟩
 · exact h.elim
end Go.Proofs.YtckhbnmfnpolgaaGreat
namespace Go.Proofs.YtckhbnmfnpolgaaGreat
open Go Go.RowKit
def TQ(c:List Tr)(d y:Tr):Prop:= ∃G a b,Wb G a/\valid sigT (enc a)=true/\Wb G b/\MW (ctxE G) (enc a) c y/\(d=enc b\/ ∃T l r,Gb G b T l r/\d=enc (I4 T l b))
theorem TQ.law{c:List Tr}{d y:Tr}(h:TQ c d y):(∃f i r,Q0 (pc f c d) 10=some r/\Q0 (Ra i c d) 10=some r)/\ ∃f i r,Q0 (pc f c y) 10=some r/\Q0 (Ra i c y) 10=some r:=by
 obtain⟨G,a,j,g,hv,b,e,hd⟩:=h;refine⟨?_,jF g hv e⟩;rcases hd with rfl|⟨T,l,r,hS,rfl⟩
 · exact RJ (e.sd g hv) b.ok.1
 · exact UJ (e.sd g hv) (gG b hS)
theorem qD{G:List M.Tm}{a:M.Tm}(h:Wb G a)(b:(ctxE G).length=5)(i:Nat)(hi:i < 2):Wb G (.var i):=by
 rw[q28] at b;cases h with
 |num hn=> simp at b;omega
 |rfl=> simp at b
 | @txt _ l _ ht c=>
  refine .txt ht ?_;simp only[txts,List.mem_cons,Prod.mk.injEq,List.not_mem_nil,or_false] at ht;rcases ht with⟨rfl,rfl⟩ |⟨rfl,rfl⟩ |⟨rfl,rfl⟩ |⟨rfl,rfl⟩ |⟨rfl,rfl⟩ |⟨rfl,rfl⟩ <;> simp at b
  rcases(by omega:i=0\/i=1) with rfl|rfl <;> simp
theorem St.mono'{W w:aN}{g m m':Nat}(h:St W w g m)(hm:m<=m'):St W w g m':=⟨h.1,h.2.mono hm⟩
theorem yB{w a:aN}{g:Nat}{o n j f i c:Value}{e:TypeId}(k:((w.setCell ⟨g,0,none⟩ f).setCell ⟨g,1,none⟩ i).setCell ⟨g,2,none⟩ c=a)(h:w.heap[g]? =some (.cells #[o,n,j] e (0,0))):a.heap[g]? =some (.cells #[f,i,c] e (0,0))/\ ∀b,g≠b->a.heap[b]? =w.heap[b]? :=by
 subst k;exact⟨PH h,fun b m=> Zs m⟩
theorem CQ.only{w a:aN}{g m:Nat}{P:List Tr->Tr->Prop}{e:Ending}(h:CQ w g m P e a):i1 [g] w a:=by
 obtain⟨_,_,_,_,_,_,_,_,_,_,_,_,_,o⟩:=h;exact o
def C3(w:aN)(e:Ending)(a:aN):Prop:= ∃A n c b d y u v,e= .returned (.tuple #[.slice A n c,u,v])/\TQ b d y/\b.length=n/\(n<=c/\c<=maxLen/\(A=none->c=0))/\V8 a A b/\Lies a d u/\Lies a y v/\Ext w a
theorem NL(O:aN)(A:Option Addr)(cap:Nat)(bs:List Int)(hl:bs.length<=cap)(hc:cap<=maxLen)(hB:Te O O.heap.size A bs):Calls prog 32 #[.slice A bs.length cap] O (C3 O):=by
 go_enter func32,ntmps32;go_wp2_with fail;generalize s:aO (aO O _) _=wa;obtain⟨br,L,sz,ea⟩:=box2 s.symm;refine(EJ _ A cap bs hl hc ((hB.ext ea).mono ea.size)).mono ?_;rintro e w1 ⟨rfl,J,e⟩;generalize hg:wa.heap.size=g at J⊢;have HG:=hdq (show O.heap.size+1 < g by omega);have X:=ea.trans e;replace br:=e.blk br;replace L:=e.blk L;have HL:=hdq J.lt;have Z:St w1 w1 g 0:=⟨i1.refl _ _,J⟩;clear ea e hg J hB s sz;go_wp2_with fail;refine(cK _ g _ Z.2 (by omega)).mono ?_;intro e E h;obtain⟨B,n,c,ks,t,k,i,At,l,d,rfl,⟨G,a,rfl,rfl,p,hv,h5,h4⟩,hn,hA,K,T,Z1⟩:=h.at (N:=fun b=> g < b) Z (fun b p=> by have:=HL.out;omega);have HX:=hdq (Z1.1.ext X (fun b p=> by rw[List.mem_singleton.1 p];have:=HG.out;omega));replace br:=Z1.br br (by have:=HG.out;omega);replace L:=Z1.br L (by have:=HG.out;omega);have P:=hdq (aZ HL.out Z1.1.size);have HK:=hdq (fun w' (o:i1 [g] E w')=> InK.dl (InK.mono (S':=fun b=> g < b/\b≠E.heap.size+1) (fun b p=>⟨p.1,by omega⟩) (fun _ _=> rfl) K.bound) o (fun b h=> Nat.ne_of_gt h.1));have HT:=hdq (fun w' (o:i1 [g] E w')=> InT.dl (InT.mono (S':=fun b=> g < b/\b≠E.heap.size+1) (fun b p=>⟨p.1,by omega⟩) (fun _ _=> rfl) T.bound) o (fun b h=> Nat.ne_of_gt h.1));have Z:St E E g 3012:=⟨i1.refl _ _,Z1.2.mono (by omega)⟩;have HW:=hdq (fun W m (J:Rd W g m) hm (hT:InT W (fun b=> g < b/\b≠E.heap.size+1) _ _) (hK:InK W (fun b=> g < b/\b≠E.heap.size+1) _ _)=> rJ (ctxE G) (enc a) W g m (m0 k i At l d) B c J hm (InT.mono (fun b p=> p.1) (fun _ _=> rfl) hT) (N4 hv).2 (InK.mono (fun b p=> p.1) (fun _ _=> rfl) hK) (by rw[hn];exact hA.1) hA.2.1 h5 h4);have HS:=hdq (fun W a0 v (I:Wb G a0) (U:valid sigT (enc a0)=true) (hK:InK W (fun b=> g < b/\b≠E.heap.size+1) B (ctxE G)) (hT:InT W (fun b=> g < b/\b≠E.heap.size+1) (enc a0) v) (hW:g < W.heap.size/\E.heap.size+1 < W.heap.size)=>(by
  obtain⟨f,f',r,f2,kj,q,h1,-,h3,h4',hq⟩:=Wr (jF I U (MW.same MR.same));refine⟨q,VH f f2 (ctxE G) B c W hK.lies' (by rw[hn];exact hA.1) hA.2.1 hA.2.2 (fun b=> g < b/\b≠E.heap.size+1) (fun b p=> by omega) hK (enc a0) v hT.lies' r q h1 (fun h=>(h3 h).1) h4',fun h0=> ?_⟩;obtain⟨G',e',T',l',r',A',e1,e2,-,e3,hS,-⟩:=hq h0;cases Wq e1
  cases wd e2
  exact⟨T',l',r',hS,e3⟩: ∃q:Tr×Int,Calls prog 20 #[.slice B (ctxE G).length c,v] W (n9 (fun b=> g < b/\b≠E.heap.size+1) W q)/\(q.2=0-> ∃T l r,Gb G a0 T l r/\q.1=enc (I4 T l a0))))
 rw[hn] at HW HS;have HB:=hdq p;have HV:=hdq hv;have H5:=hdq (fun(h:n=5) i hi=>(⟨qD p (hn.trans h) i hi,by rcases(by omega:i=0\/i=1) with rfl|rfl <;> decide+kernel⟩:Wb G (.var i)/\valid sigT (enc (.var i))=true));clear X K T Z1 hA hn p hv h5 h4;by_cases h5:n=5
 case' pos=>
  subst h5;have t5:(((5:Nat):Int)==5)=true:=rfl;have H6:=hdq (H5.out rfl);clear H5;go_wp2_with fail;generalize s:aO (aO E _) _=w3;obtain⟨H,C,-,e⟩:=box2 s.symm;replace Z:=Z.up e;clear s e;refine(Qf _ g _ 2 Z.2 (by omega)).mono ?_;rintro e w4 ⟨y,rfl,hy0,hy1,R,o⟩;have ng:E.heap.size≠g/\E.heap.size+1≠g:=by have:=P.out;omega
  replace Z:=Z.tr o R;replace H:=o.keepBlk H (by simpa using ng.1);replace C:=o.keepBlk C (by simpa using ng.2);clear o R;obtain⟨j,rfl⟩:=Int.eq_ofNat_of_zero_le hy0;obtain⟨I,U⟩:=H6.out j (by omega);go_wp2_with fail;refine(y15 _ 1 j).mono ?_;rintro e w5 ⟨rfl,e⟩;replace Z:=Z.up e;replace H:=e.blk H;replace C:=e.blk C;have Q8:=cbn C;clear e hy0 hy1 H6;go_wp2_with fail;have Zn:=Z.new3 (aR _) (by have:=P.out;omega) C (j0 1) (j0 j) (.slice none 0 0);have Na:=(Zs (w:=w5) (x:= j0 1) (y:= j0 j) (z:= .slice none 0 0) (Nat.succ_ne_self E.heap.size)).trans H;unfold set3 at Na;clear Z H C Q8;obtain⟨Z,C⟩:=Zn;generalize bT (bT (bT w5 _ _) _ _) _ _=w6 at*;have H:=Na;have D:InT w6 (fun b=> g < b/\b≠E.heap.size+1) (enc (.var j)) _:=Z5 w6 _ 1 j;clear Na t5
 case' neg=>
  have t5:((n:Int)==5)=false:=beq_eq_false_iff_ne.2 (by omega);have I:=HB.out;have U:=HV.out;clear H5;go_wp2_with fail;generalize s:aO (aO E _) _=w6;obtain⟨H,C,-,e⟩:=box2 s.symm;replace Z:=Z.up e;have ng:E.heap.size≠g/\E.heap.size+1≠g:=by have:=P.out;omega
  have D:=HT.out w6 Z.1;clear s e t5
 all_goals
  obtain⟨⟨x,cx⟩,hc,hq⟩:=HS.out w6 _ _ I U (HK.out w6 Z.1) D (by have:=D1 C;have:=P.out;omega);refine hc.mono ?_;rintro e w7 ⟨u,rfl,hx,e⟩;obtain⟨x1,x2,x3,x4,x5,rfl⟩:=hx.three;simp only at hq hx⊢;replace Z:=Z.up e;replace H:=e.blk H;replace C:=e.blk C;replace D:=D.later e;have HQ:=hdq hq;have ng:E.heap.size≠g/\E.heap.size+1≠g:=by have:=P.out;omega
  have Bb:=D1 C;clear e hc hq;rcases cz cx with⟨HC,tt⟩ |rfl
  case' inl=>
   have c7:=fun o=> cb3 (((xr w7).alloc o).blk H)
   go_wp2_with fail;clear c7;generalize s:aO w7 _=w8;obtain⟨-,e⟩:=nb s;replace Z:=(Z.up e).mono' (m':=3020) (by omega);replace C:=e.blk C;replace D:=D.later e;have bh:=hdq (fun c y (s:MW (ctxE G) (enc a) c y)=>(⟨G,a,_,HB.out,HV.out,I,s,.inl rfl⟩:TQ c _ y));clear HQ hx s e
  case' inr=>
   obtain⟨T',l',r',hS,hx1⟩:=HQ.out (by trivial);go_wp2_with fail;generalize s:aO w7 _=w8;obtain⟨b9,e⟩:=nb s;replace Z:=Z.up e;replace H:=e.blk H;replace C:=e.blk C;replace D:=D.later e;replace hx:=hx.later e;clear s e;refine(Qf _ g _ 2 Z.2 (by omega)).mono ?_;rintro e w9 ⟨y,rfl,hy0,hy1,R,o⟩;have ng9:w7.heap.size≠g:=by have:=P.out;omega
   replace Z:=Z.tr o R;replace H:=o.keepBlk H (by simpa using ng.1);replace C:=o.keepBlk C (by simpa using ng.2);replace b9:=o.keepBlk b9 (by simpa using ng9);replace D:=D.dl o (fun b h=> Nat.ne_of_gt h.1);replace hx:=hx.dl o (fun b h=> Nat.ne_of_gt h.1);have Q7:=cb3 H;have Q8:=cbn C;have Q9:=cb3 b9;clear o R ng9;by_cases hy:y=0
   case' pos=>
    subst hy;have c7:=fun x y z=> cb3 ((Zs (w:=w9) (x:=x) (y:=y) (z:=z) (Nat.succ_ne_self E.heap.size)).trans H)
    unfold set3 at c7;go_wp2_with fail;clear c7;have Zn:=Z.new3 (aR _) (by have:=P.out;omega) C (j0 x1) (j0 x2) (.slice x3 x4 x5);replace hx:=InT.mono (fun b p=> p) (fun b p=> Zs (w:=w9) (x:= j0 x1) (y:= j0 x2) (z:= .slice x3 x4 x5) (Ne.symm p.2)) hx;unfold set3 at hx;clear Z H C b9 Q7 Q8 Q9 D;obtain⟨Z,C⟩:=Zn;replace Z:=Z.mono' (m':=3020) (by omega);have D:=hx;have bh:=hdq (fun c y (s:MW (ctxE G) (enc a) c y)=>(⟨G,a,_,HB.out,HV.out,I,s,.inr ⟨T',l',r',hS,hx1⟩⟩:TQ c x y));generalize bT (bT (bT w9 _ _) _ _) _ _=wv at*;clear hx
   case' neg=>
    have hyf:(y==0)=false:=beq_eq_false_iff_ne.2 hy;go_wp2_with fail;replace Z:=Z.mono' (m':=3020) (by omega);have bh:=hdq (fun c y (s:MW (ctxE G) (enc a) c y)=>(⟨G,a,_,HB.out,HV.out,I,s,.inl rfl⟩:TQ c _ y));clear hx H b9 Q7 Q8 Q9
 all_goals
  have h:=HW.out _ _ Z.2 (by omega) (HT.out _ Z.1) (HK.out _ Z.1);refine h.mono ?_;clear h;intro e wm h;obtain⟨R,J⟩: ∃R,R= [O.heap.size,O.heap.size+1]:=⟨_,rfl⟩;have o:=CQ.only h;obtain⟨B2,n2,c2,R8,t2,k2,i2,At2,l2,d2,rfl,hP,hn,hA,K2,T2,Zm⟩:=h.at (N:=fun b=> g < b) Z (fun b p=> by have:=P.out;have:=Z.1.size;omega);have C:=o.keepBlk C (by simp;have:=P.out;omega);have D:=D.dl o (fun b h=> Nat.ne_of_gt h.1);replace br:=Zm.br br (by have:=HG.out;omega);replace L:=Zm.br L (by have:=HG.out;omega);have X:=Zm.1.ext HX.out (fun b p=> by rw[List.mem_singleton.1 p];have:=HG.out;omega);have hTQ:=bh.out _ _ hP.2;have hg2:=P.out;have hg1:=HG.out;have hlt:=D1 C;clear h o Z HW HS HK HT HB HV HX HL HG P bh hP ng Bb;have Q8:=cb3 C;go_wp2_with fail;clear Q8;generalize s:aO wm _=V;obtain⟨Ga,e⟩:=nb s;replace X:=X.trans e;replace br:=e.blk br;replace L:=e.blk L;replace C:=e.blk C;replace D:=D.later e;replace K2:=K2.later e;replace T2:=T2.later e;have Fj:E.heap.size+1∉R:=by rw[J];simp;omega
  have rz:wm.heap.size∉R:=by rw[J];simp;omega
  have Lu:O.heap.size∈R:=by rw[J];simp
  have ib:O.heap.size+1∈R:=by rw[J];simp
  have Hq: ∀b,g < b->b∉R:=fun b p=> by rw[J];simp;omega
  have FZ:=hdq (fun w (Y:m8 R V w)=>(⟨Y.cell (cb3 C).1 Fj,Y.cell (cb3 C).2.1 Fj,Y.cell (cb3 C).2.2.1 Fj,Y.cell (cb3 Ga).1 rz,Y.cell (cb3 Ga).2.1 rz,Y.cell (cb3 Ga).2.2.1 rz⟩:_/\_/\_/\_/\_/\_));clear C Ga s e Fj rz J hlt hg2;have Y0:m8 R V V.drew:=(xr V).drew.offR;refine wp_region_held_drew (S:=fun w=> m8 R V w) (by kernel_rfl) Y0 (fun _=> ?_);have Dr:=(xr V).drew;replace X:=X.trans Dr;replace br:=Dr.blk br;replace L:=Dr.blk L;replace D:=D.later Dr;replace K2:=K2.later Dr;replace T2:=T2.later Dr;clear Dr;generalize V.drew=wx at X br L D K2 T2 Y0⊢;have V0:m8 R wx wx:=(xr wx).offR;refine B3 [0,1,2,3] 2 (by kernel_rfl) Y0 (fun _ _ _ _ _ h=> h) ?_
  iterate 4 (refine tk rfl (by rfl) (by intro w X;have Q:=FZ.out _ X;go_simp;(try with_reducible rfl)) ?_;try simp only[W2])
  have R3:=cbn br;refine H0 4 (by kernel_rfl) rfl rfl (fun K hK=> ?_)
  go_simp
  refine hK.out _ _ (Y0.set3 Lu _ _ _) (fun _=> ?_);clear hK K R3;generalize s:bT (bT (bT wx _ _) _ _) _ _=wy;obtain⟨b3,k3⟩:=yB s br;have b4:=(k3 _ (Nat.ne_of_lt (Nat.lt_succ_self _))).trans L;have Y1:m8 R V wy:=s▸Y0.set3 Lu _ _ _;replace V0:m8 R wx wy:=s▸V0.set3 Lu _ _ _;replace X:Ext O wy:=s▸X.set3 (aP _) _ _ _;have R4:=cbn b4;clear s k3 br L Y0;refine H0 5 (by kernel_rfl) rfl rfl (fun K hK=> ?_)
  go_simp
  refine hK.out _ _ (Y1.set3 ib _ _ _) (fun _=> ?_);clear hK K R4 FZ;generalize s:bT (bT (bT wy _ _) _ _) _ _=w8;obtain⟨b4',k4⟩:=yB s b4;have R3:=cb3 ((k4 _ (Nat.succ_ne_self _)).trans b3);have R4:=cb3 b4';have Y2:m8 R wx w8:=s▸V0.set3 ib _ _ _;replace X:Ext O w8:=s▸X.set3 (aR _) _ _ _;clear s k4 b3 b4 b4' Y1;refine bO (by kernel_rfl) ?_ _;go_wp2_with fail;exact bodyPost_ret (v:= .tuple #[.slice B2 n2 c2,.agg #[_,_,_],.agg #[_,_,_]]) (by simp[aS,results32,go_sem,R3,R4]) rfl ⟨B2,n2,c2,R8,_,t2,_,_,rfl,hTQ,hn,hA,InK.mono (fun b p=> aZ p.2 Y2.1) (fun b p=> Y2.2 b p.2 (Hq b p.1)) K2.bound,InT.mono (fun b p=> aZ p.2 Y2.1) (fun b p=> Y2.2 b p.2 (Hq b p.1.1)) D.bound,InT.mono (fun b p=> aZ p.2 Y2.1) (fun b p=> Y2.2 b p.2 (Hq b p.1)) T2.bound,X⟩
end Go.Proofs.YtckhbnmfnpolgaaGreat
namespace Go.Proofs.YtckhbnmfnpolgaaGreat
open Go Go.RowKit
attribute [local go_sem ↓] Go.wp_at_zero Go.wp_at_succ
theorem qr{f:Nat}{G:List Tr}{j i g d e:Tr}{z:Bool}{q:Tr×Int}(h:zd f G (Xi j i g d e)=some q)(m:valid sigT i=true/\valid sigT g=true->z=true):Wl f G (Xi j (okT i) (okT g) d e) z=some q:=by
 have hd:valid sigT D2=false:=by decide+kernel
 have key: ∀b c,valid sigT (Xi j b c d e)=true->valid sigT b=true/\valid sigT c=true:=fun b c h=> by
  have n:valid sigT (.mk 4 0 [j,.mk 10 0 [b,c,.mk 1 0 []]])=true:=Pq h (by simp);have k:valid sigT (.mk 10 0 [b,c,.mk 1 0 []])=true:=Pq n (by simp);exact⟨Pq k (by simp),Pq k (by simp)⟩
 have ok: ∀{U},valid sigT (okT U)=true->valid sigT U=true:=fun{U} h=> by
  unfold okT at h
  split at h
  · assumption
  · rw[hd] at h;cases h
 unfold zd at h;unfold Wl;by_cases a:valid sigT i=true/\valid sigT g=true
 · unfold okT
   rw[if_pos a.1,if_pos a.2,m a]
   simpa using h
 · rw[if_neg (fun hv=> a (key _ _ hv))] at h
   rw[if_neg]
   · exact h
   · exact fun hv=> a ⟨ok (key _ _ hv.2).1,ok (key _ _ hv.2).2⟩
theorem PF{c:Int}{x:An}{q:Tr×Int}(h:ij c x=some q):Hid (c=0->x=some q)/\Hid (c≠0->q=(D2,c)):=by
 unfold ij at h;refine⟨hdq fun hc=> by rwa [if_pos hc] at h,hdq fun hc=> ?_⟩;rw[if_neg hc] at h;exact(Option.some.inj h).symm
theorem BG(f g0 f2:Nat)(G:List Tr)(A:Option Addr)(ca:Nat)(m:aN)(hG:V8 m A G)(F8:G.length<=ca)(hcm:ca<=maxLen)(d e:Tr)(v ve:Value)(hd:Lies m d v)(Y:Lies m e ve)(N:Nat->Prop)(hN: ∀b,m.heap.size<=b->N b)(q:Tr×Int)(h:Uc (Ra f G) (Ra g0 G) (zd f2 G) d e=some q):Calls prog 33 #[.slice A G.length ca,v,ve] m (n9 N m q):=by
 have HI:=hdq (fun t v (ht:Lies m t v) W (hW:Ext m W) N hN f r h=> SC f G A ca W (hG.ext hW) F8 hcm t v (ht.ext hW) N hN r h);have HP:=hdq (fun W (hW:Ext m W) N hN t z v ht q hq=> cI f2 G A ca W (hG.ext hW) F8 hcm t z v N hN ht q hq);obtain⟨s,c,S,V,H3⟩:=g8 h;have HD:=hdq hd;have HE:=hdq Y;obtain⟨k,n,ks⟩:=d;obtain⟨At,ct,rfl,-⟩:=Lies.mk_iff.1 hd;obtain⟨k',n',ks'⟩:=e;obtain⟨At',ct',rfl,-⟩:=Lies.mk_iff.1 Y;clear h hd Y hG;go_enter func33,ntmps33;go_wp2_with fail;generalize O:aO (aO (aO m _) _) _=w1;obtain⟨B,br,F⟩:=sn3 O.symm hN;replace F:=hdq F;have X:=xr w1;have Q:=F.out _ X.off;clear O hN;refine(HI.out _ _ HD.out _ (B.trans X) _ Q.1 _ _ S.out).mono ?_;rintro e w2 ⟨u,rfl,hT,e⟩;replace X:=X.trans e;replace Q:=F.out _ X.off;obtain⟨_,_,_,_,_,rfl⟩:=hT.three;simp only at hT⊢;obtain⟨HC,t⟩ |rfl:=cz c
 · have R:=cbn (X.blk br)
   have R':=fun o=> cbn ((X.alloc o).blk br)
   go_wp2_with fail;exact v9 (by simp[aS,results33,go_sem,R,R']) (H3.out HC.out) (((B.trans X).alloc _).set3 (by omega) _ _ _) rfl
 obtain⟨-,I,ii⟩:=vi S.out;have E:=V.out rfl;obtain⟨sk,sn,x⟩:=s;obtain⟨Af,cf,Y,-,-,hK⟩:=InT.mk_iff.1 hT;simp only[Value.agg.injEq] at Y;cases Y
 clear hT;simp only[Tr.kids] at I;have I:x.length=3:=by have:S0 10=3:=rfl;omega
 have Vf:=hdq (fun i (hi:i < 3)=> qd ii (i:=i) (by simp only[Tr.kids];omega));simp only[Tr.kids] at Vf E;obtain⟨b,ob,rfl,j,⟨qq,pw,px,qs,rq,F0⟩,⟨f11,f12,P,J,Z,F1⟩,f21,f22,f23,f24,f25,F2⟩:=j19 hK I;rw[I];clear S V H3 hK I ii;go_wp2_with fail;generalize O:aO w2 _=w3;obtain⟨bq,e⟩:=nb O;replace F:=hdq (both (rb F.out (X.trans e)) (both (k8 bq (X.ne br)) (both (F0.fm j e) (both (F1.fm j e) (F2.fm j e)))));replace X:=X.trans e;replace br:=X.blk br;replace B:=B.trans X;replace X:=xr w3;replace Q:=F.out _ X.off;clear O bq e;clear F0 F1 F2 j;obtain⟨s,c,G1,G2,G3⟩:=g8 E;clear E;refine(HI.out _ _ HE.out _ (B.trans X) _ Q.1.1 _ _ G1.out).mono ?_;rintro e w4 ⟨u,rfl,hT,e⟩;replace X:=X.trans e;replace Q:=F.out _ X.off;obtain⟨_,_,_,_,_,rfl⟩:=hT.three;simp only at hT⊢;obtain⟨HC,t⟩ |rfl:=cz c
 · have R:=cbn (X.blk br)
   have R':=fun o=> cbn ((X.alloc o).blk br)
   go_wp2_with fail;exact v9 (by simp[aS,results33,go_sem,R,R']) (G3.out HC.out) (((B.trans X).alloc _).set3 (by omega) _ _ _) rfl
 obtain⟨-,I,ii⟩:=vi G1.out;have E:=G2.out rfl;obtain⟨sk,sn,uu⟩:=s;obtain⟨Af,cf,Y,-,-,hK⟩:=InT.mk_iff.1 hT;simp only[Value.agg.injEq] at Y;cases Y
 clear hT;simp only[Tr.kids] at I;have I:uu.length=3:=by have:S0 10=3:=rfl;omega
 have Vu:=hdq (fun i (hi:i < 3)=> qd ii (i:=i) (by simp only[Tr.kids];omega));simp only[Tr.kids] at Vu E;obtain⟨b',ob',rfl,j,⟨u01,u02,u03,u04,u05,U0⟩,⟨Kw,u12,Ki,u14,u15,U1⟩,u21,u22,u23,u24,u25,U2⟩:=j19 hK I;rw[I];clear G1 G2 G3 hK I ii;go_wp2_with fail;generalize O:aO w4 _=w5;obtain⟨bq,e⟩:=nb O;replace F:=hdq (both (rb F.out (X.trans e)) (both (k8 bq (X.ne br)) (both (U0.fm j e) (both (U1.fm j e) (U2.fm j e)))));replace X:=X.trans e;replace br:=X.blk br;replace B:=B.trans X;replace X:=xr w5;replace Q:=F.out _ X.off;clear O bq e;clear U0 U1 U2 j;obtain⟨S,V⟩:=PF E;clear E;refine rgn (m.heap.size+1+1) (by kernel_rfl) X ?_;replace X:=X.drew;refine B3 [0,1,2,3,4,5,6,7] 2 (by kernel_rfl) X.off (fun _ _ _ _ _ h=> h) ?_
 iterate 8 (refine tk rfl (by rfl) (by intro w X;have Q:=F.out _ X;go_simp;(try with_reducible rfl)) ?_;try simp only[W2])
 replace Q:=F.out _ X.off;refine H0 8 (by kernel_rfl) rfl rfl (fun K hK=> ?_)
 go_simp
 go_at_call 80
 refine(RE _ _ _ _ _ Q.1.2.2.1.l Q.2.2.1.l).mono ?_;rintro e w6 ⟨rfl,e⟩;replace X:=X.trans e;replace Q:=F.out _ X.off;refine hK.out _ _ X.off (fun _=> ?_);refine B3 [9] 0 (by kernel_rfl) X.off (fun _ _ _ _ _ h=> h) ?_;refine tk rfl (by rfl) (by intro w X;go_simp;(try with_reducible rfl)) ?_
 try simp only[W2]
 refine bO (by kernel_rfl) ?_ _;generalize W3 _ _=c at S V⊢;obtain⟨HC,t⟩ |rfl:=cz c
 · have R:=cbn (X.blk br)
   go_wp2_with fail;exact v9 (by simp[aS,results33,go_sem,R]) (V.out HC.out) ((B.trans X).set3 (by omega) _ _ _) rfl
 have E:=S.out rfl;clear S V;go_wp2_with fail;obtain⟨S,V⟩:=PF E;clear E;refine rgn (m.heap.size+1+1) (by kernel_rfl) X ?_;replace X:=X.drew;refine B3 [0,1,2,3,4,5,6,7] 2 (by kernel_rfl) X.off (fun _ _ _ _ _ h=> h) ?_
 iterate 8 (refine tk rfl (by rfl) (by intro w X;have Q:=F.out _ X;go_simp;(try with_reducible rfl)) ?_;try simp only[W2])
 replace Q:=F.out _ X.off;refine H0 8 (by kernel_rfl) rfl rfl (fun K hK=> ?_)
 go_simp
 go_at_call 80
 refine(RE _ _ _ _ _ Q.1.2.2.2.2.l Q.2.2.2.1.l).mono ?_;rintro e C ⟨rfl,e⟩;replace X:=X.trans e;replace Q:=F.out _ X.off;refine hK.out _ _ X.off (fun _=> ?_);refine B3 [9] 0 (by kernel_rfl) X.off (fun _ _ _ _ _ h=> h) ?_;refine tk rfl (by rfl) (by intro w X;go_simp;(try with_reducible rfl)) ?_
 try simp only[W2]
 refine bO (by kernel_rfl) ?_ _;generalize W3 _ _=c at S V⊢;obtain⟨HC,t⟩ |rfl:=cz c
 · have R:=cbn (X.blk br)
   go_wp2_with fail;exact v9 (by simp[aS,results33,go_sem,R]) (V.out HC.out) ((B.trans X).set3 (by omega) _ _ _) rfl
 have E:=S.out rfl;clear S V;go_wp2_with fail;have E:=hdq E;unfold zs at E;simp only[Tr.kids] at E;replace F:=hdq (rb F.out X);replace br:=X.blk br;replace B:=B.trans X;replace X:=xr C;replace Q:=F.out _ X.off;generalize O:aO C _=w8;obtain⟨bk,e⟩:=nb O;replace X:=X.trans e;replace Q:=F.out _ X.off;clear O;refine rgn (m.heap.size+1+1) (by kernel_rfl) X ?_;replace X:=X.drew;refine B3 [0,1,2,3,4,5,6,7,9,10,11,12] 9 (by kernel_rfl) X.off (fun _ _ _ _ _ h=> h) ?_
 iterate 12 (refine tk rfl (by rfl) (by intro w X;have Q:=F.out _ X;go_simp;(try with_reducible rfl)) ?_;try simp only[W2])
 have L:C.heap.size < w8.drew.heap.size:=D1 bk;have K0:=hdq (InT.keep (F.out _ (Off.refl _ _)).1.2.2.1.i X (aP _));have K1:=hdq (InT.keep (F.out _ (Off.refl _ _)).1.2.2.2.1.i X (aP _));have K2:=hdq (InT.keep (F.out _ (Off.refl _ _)).2.2.1.i X (aP _));have N0:=hdq (show∀b,w8.drew.heap.size<=b->(N b/\b≠m.heap.size+1+1)/\b≠C.heap.size from fun b j=>⟨(F.out _ X.off).1.1.1 b j,by omega⟩);replace Q:=F.out _ X.off;refine BD (C.heap.size) (Jm (C.heap.size) (valid sigT (shfT 1 (kd x 0) 0)=true/\valid sigT (shfT 1 (kd x 1) 0)=true)) 20 84 #[true,true,true,true,true,true,true,true,true,true,true,true,true,true,true,true,true,true,true,true,false] 1 [.any,.any,.any,.any,.any,.any,.any,.any,Sp.tree (fun b=>(N b/\b≠m.heap.size+1+1)/\b≠C.heap.size) (okT (shfT 1 (kd x 0) 0)),.any,.any,.any,.any,Sp.tree (fun b=>(N b/\b≠m.heap.size+1+1)/\b≠C.heap.size) (okT (shfT 1 (kd x 1) 0)),Sp.tree (fun b=>(N b/\b≠m.heap.size+1+1)/\b≠C.heap.size) (.mk 1 0 []),Sp.row (fun b=>(N b/\b≠m.heap.size+1+1)/\b≠C.heap.size) [okT (shfT 1 (kd x 0) 0),okT (shfT 1 (kd x 1) 0),.mk 1 0 []],Sp.tree (fun b=>(N b/\b≠m.heap.size+1+1)/\b≠C.heap.size) (.mk 10 0 [okT (shfT 1 (kd x 0) 0),okT (shfT 1 (kd x 1) 0),.mk 1 0 []]),Sp.row (fun b=>(N b/\b≠m.heap.size+1+1)/\b≠C.heap.size) [kd uu 0,.mk 10 0 [okT (shfT 1 (kd x 0) 0),okT (shfT 1 (kd x 1) 0),.mk 1 0 []]],Sp.tree (fun b=>(N b/\b≠m.heap.size+1+1)/\b≠C.heap.size) (.mk 4 0 [kd uu 0,.mk 10 0 [okT (shfT 1 (kd x 0) 0),okT (shfT 1 (kd x 1) 0),.mk 1 0 []]]),Sp.box w8.drew] [8,13,14,15,16,17,18,19] L ⟨_,bk,fun _=> rfl⟩ ⟨trivial,trivial,trivial,trivial,trivial,trivial,trivial,trivial,trivial,trivial,trivial,trivial,trivial,trivial,trivial,trivial,trivial,trivial,trivial,L,trivial⟩ (fun w h=>(h.ext X (fun b j=> by rw[List.mem_singleton.1 j];exact aP _)).off) (by kernel_rfl) rfl ?st1 ?fi1
 case st1=>
  repeat' first|exact trivial|refine And.intro ⟨_,rfl, ?_⟩ ?_
  all_goals(intro a w z hE D i6;refine Ord.step_of rfl rfl ?_;intro K hK)
  · (have f62:=v4 (show a.eval (.tmp 62)= m0 qq pw px qs rq from D 62 (by kernel_rfl));have f11:=v4 (show a.eval (.tmp 11)= O2 C.heap.size from D 11 (by kernel_rfl));go_simp;go_at_call 57;obtain⟨y,hy,hz⟩:=hE.ok;refine(Xk _ (Vf.out 0 (by omega)) w _ (InT.oldH K0.out (fun b h=> h.2) hE).lies' _ _ hy).mono ?_;rintro e U ⟨u,rfl,hu,ho,j⟩;exact hK _ _ ⟨_,z,rfl,hE.put ho ⟨_,j,fun p=> by rw[hz p,p.1];rfl⟩,InT.mono (fun b j=> jr N0.out hE b j) (fun _ _=> rfl) hu⟩)
  · (have f67:=v4 (show a.eval (.tmp 67)= m0 f11 f12 P J Z from D 67 (by kernel_rfl));have f11:=v4 (show a.eval (.tmp 11)= O2 C.heap.size from D 11 (by kernel_rfl));go_simp;go_at_call 57;obtain⟨y,hy,hz⟩:=hE.ok;refine(Xk _ (Vf.out 1 (by omega)) w _ (InT.oldH K1.out (fun b h=> h.2) hE).lies' _ _ hy).mono ?_;rintro e U ⟨u,rfl,hu,ho,j⟩;exact hK _ _ ⟨_,z,rfl,hE.put ho ⟨_,j,fun p=> by rw[hz p,p.2];rfl⟩,InT.mono (fun b j=> jr N0.out hE b j) (fun _ _=> rfl) hu⟩)
  · (go_simp;go_at_call 58;refine(VD 0 w).mono ?_;rintro e U ⟨rfl,H⟩;exact hK _ _ ⟨_,z,rfl,EH.ex hE H,Z5 _ _ _ _⟩)
  · (have h8:InT w (Mz _ z) (okT (shfT 1 (kd x 0) 0)) (a.eval (.tmp 63)):=i6 8 63 (by kernel_rfl);obtain⟨_,_,_,_,_,f8⟩:=h8.three;rw[f8] at h8;replace f8:=v4 f8;have G8:InT w (Mz _ z) (okT (shfT 1 (kd x 1) 0)) (a.eval (.tmp 68)):=i6 13 68 (by kernel_rfl);obtain⟨_,_,_,_,_,P⟩:=G8.three;rw[P] at G8;replace P:=v4 P;have ia:InT w (Mz _ z) (.mk 1 0 []) (a.eval (.tmp 69)):=i6 14 69 (by kernel_rfl);obtain⟨_,_,_,_,_,J⟩:=ia.three;rw[J] at ia;replace J:=v4 J;go_simp;obtain⟨H,h⟩:=Zc 25 h8 G8 ia (jr N0.out hE);exact hK _ _ ⟨_,z,rfl,EH.ex hE H,_,3,rfl,aP _,by decide,h⟩)
  · (obtain⟨A15,c15,Z,Bc,zy,Dy⟩: ∃A c,a.eval (.tmp 70)= .slice A 3 c/\3<=c/\c<=maxLen/\InK w (Mz _ z) A [okT (shfT 1 (kd x 0) 0),okT (shfT 1 (kd x 1) 0),.mk 1 0 []]:=i6 15 70 (by kernel_rfl);replace Z:=v4 Z;go_simp;go_at_call 56;refine(Qe w 10 A15 3 c15).mono ?_;rintro e U ⟨rfl,H⟩;exact hK _ _ ⟨_,z,rfl,EH.ex hE H,InT.mk_iff.2 ⟨_,_,rfl,Bc,zy,Dy.later H⟩⟩)
  · (have f58:=v4 (show a.eval (.tmp 58)= m0 u01 u02 u03 u04 u05 from D 58 (by kernel_rfl));have D5:InT w (Mz _ z) (.mk 10 0 [okT (shfT 1 (kd x 0) 0),okT (shfT 1 (kd x 1) 0),.mk 1 0 []]) (a.eval (.tmp 71)):=i6 16 71 (by kernel_rfl);obtain⟨_,_,_,_,_,f16⟩:=D5.three;rw[f16] at D5;replace f16:=v4 f16;go_simp;obtain⟨H,h⟩:=n7 25 (K2.out.oldH (fun b h=> h.2) hE) D5 (jr N0.out hE);exact hK _ _ ⟨_,z,rfl,EH.ex hE H,_,2,rfl,aP _,by decide,h⟩)
  · (obtain⟨A17,c17,f17,Bu,Ao,Da⟩: ∃A c,a.eval (.tmp 72)= .slice A 2 c/\2<=c/\c<=maxLen/\InK w (Mz _ z) A [kd uu 0,.mk 10 0 [okT (shfT 1 (kd x 0) 0),okT (shfT 1 (kd x 1) 0),.mk 1 0 []]]:=i6 17 72 (by kernel_rfl);replace f17:=v4 f17;go_simp;go_at_call 56;refine(Qe w 4 A17 2 c17).mono ?_;rintro e U ⟨rfl,H⟩;exact hK _ _ ⟨_,z,rfl,EH.ex hE H,InT.mk_iff.2 ⟨_,_,rfl,Bu,Ao,Da.later H⟩⟩)
  · (go_simp;exact hK _ _ ⟨_,_,rfl,EH.bx hE,_,rfl,List.mem_cons_self ..,(show _<=w.heap.size from hE.1.size),heap_alloc_new _ _⟩)
 case fi1=>
  intro v U z hE hG;have ht:InT U (Mz _ z) (.mk 4 0 [kd uu 0,.mk 10 0 [okT (shfT 1 (kd x 0) 0),okT (shfT 1 (kd x 1) 0),.mk 1 0 []]]) (v 18):=hG 18 (by decide) (by kernel_rfl);obtain⟨a1,a2,a3,a4,a5,B8⟩:=ht.three;rw[B8] at ht;obtain⟨gb,hv2,gz,bl,bx⟩: ∃g,v 19= O2 g/\g∈z/\w8.drew.heap.size<=g/\U.heap[g]? =_:=hG 19 (by decide) (by kernel_rfl);simp only[List.foldl,Ord.dstOf,List.getElem?_toArray,List.getElem?_cons_zero,List.getElem?_cons_succ,Option.bind_some,Act.put,List.setIfInBounds_toArray,List.set_cons_zero,List.set_cons_succ];rw[B8,hv2];replace ht:=(InT.mono (fun b j=>(⟨j.1.1,fun h=> j.2 (h▸gz)⟩:(N b/\b≠(m.heap.size+1+1))/\b≠gb)) (fun _ _=> rfl) ht).ret (j0 a1) (j0 a2) (.slice a3 a4 a5);have hne:=kp X bl br;have zg:=Nat.le_trans X.size bl;have pu: ¬C.heap.size=gb:=by omega
  have hnR:C.heap.size≠(m.heap.size+1+1):=(xr _).ne br;replace X:=hE.1.ext X (fun b j=> by rw[List.mem_singleton.1 j];exact aP _);obtain⟨y,hy1,hy2⟩:=hE.ok;have HY:=hdq (qr E.out hy2);have Zx:=cbn bx;clear hG hE gz B8 hv2 hy2 E K0 K1 K2 N0;refine H0 20 (by kernel_rfl) rfl rfl (fun K hK=> ?_)
  go_simp
  have e:=Off.new3 X zg bx (j0 a1) (j0 a2) (.slice a3 a4 a5);refine hK.out _ _ e.1.off (fun _=> ?_);clear hK K Zx;have hy:(bT (bT (bT U ⟨gb,0,none⟩ (j0 a1)) ⟨gb,1,none⟩ (j0 a2)) ⟨gb,2,none⟩ (.slice a3 a4 a5)).heap[C.heap.size]? =some (.cells #[.bool y] 4 (0,0)):=by rw[Below.heap_setCell _ _ _ _ pu,Below.heap_setCell _ _ _ _ pu,Below.heap_setCell _ _ _ _ pu];exact hy1
  replace X:=e.1;have bq:=e.2;generalize bT (bT (bT U _ _) _ _) _ _=w9 at*;refine bO (by kernel_rfl) ?_ _;clear e bx hy1;replace F:=hdq (both (rb F.out X) (both (k8 bq hne) (both (ht.up (xr _)) (fun U h=> yA (h.blk hy hnR)))));replace br:=X.blk br;replace B:=B.trans X;replace X:=xr w9;replace Q:=F.out _ X.off;clear bq ht hne bl zg pu hnR hy bk L;go_wp2_with fail;refine rgn (m.heap.size+1+1) (by kernel_rfl) X ?_;replace X:=X.drew;refine B3 [0,1,2,3,6] 7 (by kernel_rfl) X.off (fun _ _ _ _ _ h=> h) ?_
  iterate 5 (refine tk rfl (by rfl) (by intro w X;have Q:=F.out _ X;go_simp;(try with_reducible rfl)) ?_;try simp only[W2])
  replace Q:=F.out _ X.off;refine H0 4 (by kernel_rfl) rfl rfl (fun K hK=> ?_)
  go_simp
  obtain⟨e,o7⟩:=Zc 25 Q.2.2.1.w (InT.w (r:=(m.heap.size+1+1)) (InT.keep HE.out (B.trans X) (by omega))) (InT.w (r:=(m.heap.size+1+1)) (InT.keep HD.out (B.trans X) (by omega))) (fun b j=>(Q.1.1.1.1 b j).2);replace X:=X.trans e;replace Q:=F.out _ X.off;refine hK.out _ _ X.off (fun _=> ?_);refine H0 5 (by kernel_rfl) rfl rfl (fun K hK=> ?_)
  go_simp
  go_at_call 56
  refine(yk 12 o7 rfl).mono ?_;rintro e S6 ⟨rfl,hp,e⟩;replace X:=X.trans e;replace Q:=F.out _ X.off;refine hK.out _ _ X.off (fun _=> ?_);clear o7;refine H0 7 (by kernel_rfl) rfl rfl (fun K hK=> ?_)
  go_simp
  go_at_call 59
  refine(HP.out _ (B.trans X) _ Q.1.1.1.1 _ y _ hp.lies' q HY.out).mono ?_;rintro e Y4 ⟨u,rfl,hu,e⟩;replace X:=X.trans e;replace Q:=F.out _ X.off;refine hK.out _ _ X.off (fun _=> ?_);obtain⟨_,_,_,_,_,rfl⟩:=hu.three;clear hp;refine B3 [8,9] 2 (by kernel_rfl) X.off (fun _ _ _ _ _ h=> h) ?_
  iterate 2 (refine tk rfl (by rfl) (by intro w X;go_simp;(try with_reducible rfl)) ?_;try simp only[W2])
  have R:=cbn (X.blk br);refine H0 10 (by kernel_rfl) rfl rfl (fun K hK=> ?_)
  go_simp
  refine hK.out _ _ (X.off.set3 _ _ _) (fun _=> ?_);refine B3 [11] 0 (by kernel_rfl) (X.off.set3 _ _ _) (fun _ _ _ _ _ h=> h) ?_;refine tk rfl (by rfl) (by intro w X;go_simp;(try with_reducible rfl)) ?_
  try simp only[W2]
  refine bO (by kernel_rfl) ?_ _;go_wp2_with fail;exact L7 (by simp[aS,results33,go_sem,R]) (hu) (Od rfl) (B.trans X) (by omega) rfl
