/-
  Lemmas towards the law, 40: MTwo.
-/
import Derived.Test.YtckhbnmfnpolgaaGreatCBM
set_option linter.all false
namespace Go.Proofs.YtckhbnmfnpolgaaGreat
open Go.RowKit
open M (Hd HR Cv Ty Lim Wb y6 U4 dep DG fvb)
theorem gs{f:Nat}{G:List M.Tm}{t A:M.Tm}(hG:O6 G)(h8:G.length<=8)(v:j0 D0 (enc t)=true)(ht:Ty G t A)(lt:Lim G t):Nb (Yb f (ctxE G) (enc t)):=
 (RA hG h8 (by simp[v])).thn fun _ _=>(Fk f G t A hG v ht lt).thn fun _ _=> Nb.ok _
theorem Yr{f:Nat}{G:List M.Tm}{t:M.Tm}{s:Tr}(h:Yb f (ctxE G) (enc t)=some (s,0)): ∃A,s=enc A/\Ty G t A/\Lim G t/\j0 D0 (enc A)=true:=by
 obtain⟨j,a,A,g,-,-,d,-,rfl,i,c,b,-⟩:=Vm h;cases py g
 cases Md d
 exact⟨A,rfl,i,c,b⟩
theorem du{B:M.Tm}(h:(enc B).kind=11): ∃a,B= .refl a:=by
 cases B <;> simp[enc,Tr.kind] at h <;> exact⟨_,rfl⟩
section
variable {G : List M.Tm} {e T l r A : M.Tm}
theorem Vb.typH(h:Vb G e T l r)(k:Ty G (Y2 T l e) A):HR A (.id T r l):=by
 cases k with
 |move c b n i f m j g=>
  obtain⟨E,a,d⟩:=h.hE;obtain rfl:=a.det c;obtain⟨rfl,rfl,rfl⟩:=d.id_det b;have:=HR.one (Hd.beta T (.id (M.Tm.wk T) (.var 0) (M.Tm.wk l)) r);rw[show(M.Tm.id (M.Tm.wk T) (.var 0) (M.Tm.wk l)).inst r= .id ((M.Tm.wk T).inst r) r ((M.Tm.wk l).inst r) from rfl,M.Tm.wk_inst,M.Tm.wk_inst] at this;exact this
theorem Vb.twice(h:Vb G e T l r)(b:Lim G (Y2 T l e))(a:Vb G (Y2 T l e) T r l): ∃B,Ty G (Y2 T r (Y2 T l e)) B/\Lim G (Y2 T r (Y2 T l e)):=by
 obtain⟨j,D,c,s⟩:=a.body;obtain⟨n,q,f,C⟩:=h.body;obtain⟨i,hi,S,x,u⟩:=a.hT;obtain⟨P,v,z⟩:=a.hE;obtain⟨R,y,o⟩:=a.hl;have d:Cv (.id R r r) (.app (.lam T (.id (M.Tm.wk T) (.var 0) (M.Tm.wk r))) r):=by
  have:=(HR.one (Hd.beta T (.id (M.Tm.wk T) (.var 0) (M.Tm.wk r)) r)).cv;rw[show(M.Tm.id (M.Tm.wk T) (.var 0) (M.Tm.wk r)).inst r= .id ((M.Tm.wk T).inst r) r ((M.Tm.wk r).inst r) from rfl,M.Tm.wk_inst,M.Tm.wk_inst] at this;exact(Cv.id o (Cv.rfl' _) (Cv.rfl' _)).trans this.symm
 have m:j=n:=by
  cases c with
  |id t1 t2 _ _ _ _=>
   cases f with
   |id t g _ _ _ _=>
    obtain rfl:=t1.det t;exact t2.sort_det g
 subst m;refine⟨_,.move v z (.lam x u c) (.refl _) (Cv.rfl' _) (.refl _) (.refl y) d,⟨a.lT,s,fun B k w p=> ?_⟩,b,a.lrf⟩;obtain rfl:=c.det w;exact b.1.2.2 _ k f p
end
theorem iF{G:List M.Tm}{e T l r A:M.Tm}(h:Vb G e T l r)(k:Ty G (Y2 T l e) A)(a:Lim G (Y2 T l e))(v:j0 D0 (enc (Y2 T l e))=true){f:Nat}{q:Tr×Int}(d:X0 (Yb f (ctxE G) (enc (Y2 T l e))) 10=some q):(q.2=0\/q.2=2)/\(q.2=0->q.1=enc (.id T r l)/\Vb G (Y2 T l e) T r l):=by
 refine⟨((gs h.hG h.h8 v k a).frm fun s hs=> ?_) q.1 q.2 d,fun i=> ?_⟩
 · obtain⟨m,rfl,b,-,-⟩:=Yr hs
   exact⟨m,_,rfl,h.typH b,by simp[M.hk],rfl⟩
 · obtain⟨s,c⟩:=q
   subst i;obtain⟨w,p,t,u,o,b,g,rfl,hS⟩:=TB d;cases py b
   cases Md g
   obtain⟨E,n,j⟩:=hS.hE;obtain⟨rfl,rfl,rfl⟩:=(h.typH n).id_det j;exact⟨rfl,hS⟩
theorem fo{G:List M.Tm}{e T l r:M.Tm}(h:Vb G e T l r)(b:Lim G (Y2 T l e))(g:Vb G (Y2 T l e) T r l){f:Nat}{q:Tr×Int}(a:Jb f (ctxE G) (enc (Y2 T r (Y2 T l e)))=some q):
 (q.2=0\/q.2=2)/\(q.2=0->q.1=enc (Y2 T r (Y2 T l e))/\j0 D0 (enc (Y2 T r (Y2 T l e)))=true):=by
 unfold Jb at a
 split at a
 · rename_i hv
   obtain⟨B,i,k⟩:=h.twice b g;refine⟨((gs h.hG h.h8 hv i k).thn fun _ _=> Nb.ok _) q.1 q.2 a,fun j=>⟨?_,hv⟩⟩;obtain⟨s,c⟩:=q;subst j;obtain⟨u,-,d⟩:=M8 a;simp only[Option.some.injEq,Prod.mk.injEq,and_true] at d;exact d.symm
 · obtain rfl:=Option.some.inj a
   exact⟨.inr rfl,fun h=> by cases h⟩
theorem tG{G:List M.Tm}{e T l r:M.Tm}(h:Vb G e T l r)(a:Lim G (Y2 T l e))(b:Vb G (Y2 T l e) T r l)(v:j0 D0 (enc (Y2 T r (Y2 T l e)))=true){f i:Nat}{s:Tr}(hs:Yb f (ctxE G) (enc e)=some (s,0)):Nb (Nq i (ctxE G) (enc (Y2 T r (Y2 T l e))) s):=by
 obtain⟨A,rfl,m,k,n⟩:=Yr hs;obtain⟨B,c,o⟩:=h.twice a b;obtain⟨E,g,d⟩:=h.hE;obtain rfl:=g.det m;refine Sr h.hG h.h8 v n c o ((b.typH c).cv.trans d.cv.symm) ?_;rcases Lim.type g h.hG.wf k with rfl|j
 · cases d with
   |step p _=> cases p
 · exact j
theorem SE{G:List M.Tm}{e T l r:M.Tm}(h:Vb G e T l r)(hk:(enc e).kind=11):Cv (Y2 T l e) e:=by
 obtain⟨a,rfl⟩:=du hk;obtain⟨E,c,b⟩:=h.hE;cases c with
 |refl d=>
  have:=HR.at b (by simp[M.hk]);simp only[M.Tm.id.injEq] at this;obtain⟨rfl,rfl,rfl⟩:=this;exact(HR.one (Hd.mr _ _ _)).cv
