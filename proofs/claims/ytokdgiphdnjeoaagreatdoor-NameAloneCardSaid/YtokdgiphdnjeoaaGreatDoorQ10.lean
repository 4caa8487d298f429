/- Part of a proof. -/
import Derived.Test.YtokdgiphdnjeoaaGreatDoorQ09
import Derived.BigRegion
set_option maxRecDepth 100000
set_option maxHeartbeats 8000000
set_option linter.unusedVariables false
set_option linter.unusedSimpArgs false
open Go.Proofs.Tryz
namespace Go.Proofs.YtokdgiphdnjeoaaGreatDoor
section
open Go Go.RowKit
theorem rY(v:TreeV)(t:Tr)(w:World)(bd:Bd t)(h:IsTree w v t) :
 Calls prog 53 #[v.val t] w (wQ w t):=by
 have HT:=Hd h;have BD:=Hd bd;have hn3:=bd.n;have hi3:=bd.i;clear h bd;obtain⟨na,nc,ia,ic⟩:=v;unfold TreeV.val;go_enter func53,ntmps53;have hitems:Ints (((boxT w ⟨na,nc,ia,ic⟩ t).alloc (.cells #[.slice none 0 0,.slice none 0 0] 25)).alloc (.cells #[] 3)) ia ic t.items:=Row.mono HT.out.items (((brf.alloc nlr _).alloc (by simp) _).alloc (by simp;omega) _) nlr;have HI:=Hd hitems;clear hitems
 go_wp2_with (at_builtin;refine zV (news:=t.items) (l:=[]) (B:=w.heap.size+1+1) rfl (.tmp 6) (.tmp 8) rfl rfl (iG _ _ _ (by simp) (by omega)) rfl HI.out (by simp;omega) (by simp) ?_;intro a9 c9 w9 l9 HL9 hle9 hown9 hkeep9)
 have hb9:Below (w.heap.size+1+1) ((boxT w ⟨na,nc,ia,ic⟩ t).alloc (.cells #[.slice none 0 0,.slice none 0 0] 25)) w9:=hkeep9 _ _ nlr (brf.alloc (by simp) _);have hz9:w.heap.size+1+1≤w9.heap.size:=by have:=hb9.size;simpa using this
 have hl9:l9=t.items:=HL9.out;subst hl9;have HI9:=Hd (show Ints w9 a9 c9 t.items from zU hown9);have HB9:=Hd hb9;have hia9:∀x,a9=some x→w.heap.size+1+1≤x.block∧x.block<w9.heap.size:=fun x e=>by subst e;exact hown9.lt x.block rfl
 have HIA:=Hd hia9;clear hkeep9 hown9 hb9 HL9 hia9
 go_loopw [4] (fun t4 wr=>∃(k:Nat) (am:Option Addr) (cm:Nat) (ks:List (Option Addr×Nat)),t4=.int .i64 k∧k≤t.nodes.length ∧
  Hid (OwnN wr (w9.heap.size+1) am cm (t.nodes.take k) ks)∧Hid (wr.cell? ⟨w9.heap.size,0,none⟩=some (.slice am k cm))∧Hid (wr.cell? ⟨w9.heap.size,1,none⟩=some (.slice a9 t.items.length c9))∧Hid (wr.frozen? ⟨w9.heap.size,0,none⟩=false) ∧
  Hid (w9.heap.size+1≤wr.heap.size)∧Hid (Below w9.heap.size w9 wr)) (fun i _=>t.nodes.length-(intOf i).toNat)
 case atStart=>
  exact⟨0,none,0,[],rfl,Nat.zero_le _,Hd (OwnN.nil _ _),Hd (by simp),Hd (by simp),Hd (by simp),Hd (by simp),Hd (brf.alloc nlr _)⟩
 case round=>
  obtain⟨k,am,cm,ks,rfl,hk,HO,HC0,HC1,HF,HSZ,HBW⟩:=hrel;have hbw:Below w.heap.size w wr:=((((Below.refl _ w).alloc nlr _).alloc (by simp) _).trans (HB9.out.mono (by omega))).trans (HBW.out.mono (by omega));have HW:=Hd hbw;obtain⟨hcw,hfw⟩:=bcell hbw;have hc9:=(bcell (show Below ((boxT w ⟨na,nc,ia,ic⟩ t).alloc (.cells #[.slice none 0 0,.slice none 0 0] 25)).heap.size _ _ by simpa using HB9.out)).1;have hsz:=HSZ.out;have hg:=HC0.out;have hg1:=HC1.out;have hgf:=HF.out;have e0:wr.cell? ⟨w.heap.size,0,none⟩=some (.slice na t.nodes.length nc):=(HBW.out.cell (p:=⟨w.heap.size,0,none⟩) (by simp;omega)).trans ((hc9 _ _ (by simp;omega)).trans (by simp));have e2:wr.cell? ⟨w.heap.size+1,0,none⟩=some (.slice none 0 0):=(HBW.out.cell (p:=⟨w.heap.size+1,0,none⟩) (by simp;omega)).trans ((hc9 _ _ (by simp)).trans (by simp));have e3:wr.cell? ⟨w.heap.size+1,1,none⟩=some (.slice none 0 0):=(HBW.out.cell (p:=⟨w.heap.size+1,1,none⟩) (by simp;omega)).trans ((hc9 _ _ (by simp)).trans (by simp));have hf9:=(bcell (show Below ((boxT w ⟨na,nc,ia,ic⟩ t).alloc (.cells #[.slice none 0 0,.slice none 0 0] 25)).heap.size _ _ by simpa using HB9.out)).2;have e2f:wr.frozen? ⟨w.heap.size+1,0,none⟩=false:=(HBW.out.frozen (p:=⟨w.heap.size+1,0,none⟩) (by simp;omega)).trans ((hf9 _ _ (by simp)).trans (by simp));have e3f:wr.frozen? ⟨w.heap.size+1,1,none⟩=false:=(HBW.out.frozen (p:=⟨w.heap.size+1,1,none⟩) (by simp;omega)).trans ((hf9 _ _ (by simp)).trans (by simp));clear hc9 hf9 hbw;by_cases hlt:k<t.nodes.length
  ·obtain⟨b,o,ka,kc,ea,hb,c0,c1,c2,c3,c4,hkr⟩:=HT.out.nodes.at hlt
   simp only at ea;subst ea;have htk:t.nodes.take (k+1)=t.nodes.take k++[t.nodes[k]]:=List.take_succ_eq_append_getElem hlt;have hkl:t.nodes[k].kids.length≤1000000:=BD.out.k _ (List.getElem_mem _);obtain⟨d,hd⟩:∃d,t.nodes[k]=d:=⟨_,rfl⟩
   rw[hd]at c0 c1 c2 c3 c4 hkr hkl htk;have HTK:=Hd htk;clear hd htk;have hkr2:Ints ((wr.alloc (.cells #[.int .u8 d.kind,strV d.text,intV d.n,.slice ka d.kids.length kc,intV d.pos] 57)).alloc (.cells #[] 3)) ka kc d.kids:=Row.mono (Row.mono hkr HW.out nlr) ((brf.alloc nlr _).alloc (by simp) _) nlr;have HKR:=Hd hkr2;clear hkr hkr2
   go_wp2_with (first
    | (at_builtin;refine zR (news:=d.kids) (l:=[]) (B:=wr.heap.size+1) rfl (.tmp 23) (.tmp 25) rfl rfl (iG _ _ _ (by simp) nlr) rfl HKR.out (by simp;omega) (by simp) ?_;intro a5 c5 w5 l5 HL5 hle5 hown5 hkeep5 hap5;have hb5:=hkeep5 _ _ nlr ((Below.refl (wr.heap.size+1) _).alloc (by simp) (.cells #[] 3));have hl5:l5=d.kids:=HL5.out;subst hl5;obtain⟨⟨x0,x1,x2,x3,x4⟩,xf,hc5,hf5,hbw5,hs5⟩:=qS hb5;have x3f:=xf 3;have y0:w5.cell? ⟨w9.heap.size,0,none⟩=some (.slice am k cm):=(hc5 _ _ hsz).trans hg;have y0f:w5.frozen? ⟨w9.heap.size,0,none⟩=false:=(hf5 _ _ hsz).trans hgf;have HB5:=Hd hb5;have HOW5:=Hd hown5;have HAP5:=Hd hap5;have HBW5:=Hd hbw5;clear xf hc5 hf5 hb5 hown5 hap5 hkeep5 HL5 hbw5)
    | (at_builtin;have hbW:=(((HBW5.out.setCell (p:=⟨wr.heap.size,3,none⟩) nlr (.slice a5 d.kids.length c5)).alloc (by simp;omega) (.cells #[.int .u8 d.kind,strV d.text,intV d.n,.slice a5 d.kids.length c5,intV d.pos] 57)));have HOW:=HO.out.below hbW;have hOK:=HOW.ownK (k:=k) (by simp;omega);have HBW2:=Hd hbW;clear hbW;refine eA (news:=d.cells (a5,c5)) rfl (.tmp 29) (.tmp 31) 22 57 _ 5 64 rfl cZ iZ rfl (by decide) rfl hOK rfl (nN _ d a5 c5 (by simp)) (fI d (a5,c5)) (by unfold maxLen;omega) (by omega) (by simp;omega) ?_;intro a6 c6 w6 h1 h2 h3;have hgb:=(Below.refl (w9.heap.size+1) _).grown h2 (by simp;omega) (fun r e=>(hOK.lt r e).1);have y1:w6.cell? ⟨w9.heap.size,0,none⟩=some (.slice am k cm):=(hgb.cell (p:=⟨w9.heap.size,0,none⟩) (by simp)).trans ((HBW2.out.cell (p:=⟨w9.heap.size,0,none⟩) hsz).trans hg);have y1f:w6.frozen? ⟨w9.heap.size,0,none⟩=false:=(hgb.frozen (p:=⟨w9.heap.size,0,none⟩) (by simp)).trans ((HBW2.out.frozen (p:=⟨w9.heap.size,0,none⟩) hsz).trans hgf);have y2:w6.cell? ⟨w9.heap.size,1,none⟩=some (.slice a9 t.items.length c9):=(hgb.cell (p:=⟨w9.heap.size,1,none⟩) (by simp)).trans ((HBW2.out.cell (p:=⟨w9.heap.size,1,none⟩) hsz).trans hg1);have Y2:=Hd y2;have HGB:=Hd hgb;have H1:=Hd h1;have H2:=Hd h2;have H3:=Hd h3;have HOW2:=Hd HOW;clear hgb h1 h2 h3 hOK HOW y2))
   go_roundw
   case rel=>
    have hkr6:KRow ((w5.setCell ⟨wr.heap.size,3,none⟩ (.slice a5 d.kids.length c5)).alloc (.cells #[.int .u8 d.kind,strV d.text,intV d.n,.slice a5 d.kids.length c5,intV d.pos] 57)) (w9.heap.size+1) am (a5,c5) d.kids:=by
     refine⟨Row.mono (aA (zU HOW5.out) _ fun _ x e=>?_) (brf.alloc nlr _) nlr,fun _ x e=>?_⟩
     ·have e:a5=some x:=e
      subst e;have:=(HOW5.out.lt x.block rfl).1;simp only;omega
     ·have e:a5=some x:=e
      subst e;have h5:=(HOW5.out.lt x.block rfl).1;exact⟨by omega,fun y ey=>by have:=(HO.out.lt y ey).2;omega⟩
    have hsn:=HOW2.out.snoc (d:=d) (k:=(a5,c5)) hkr6 (a':=a6) (c':=c6) (w':=w6) (by rw[show(t.nodes.take k).length=k by simp;omega];exact H1.out) (by rw[show(t.nodes.take k).length=k by simp;omega];exact H2.out) H3.out;rw[←HTK.out]at hsn;refine⟨k+1,a6,c6,_,by go_num,by omega,Hd (hsn.setCell (p:=⟨w9.heap.size,0,none⟩) (by simp) _),Hd (World.cell?_setCell_same _ _ _ y1),Hd ((World.cell?_setCell_other _ _ _ _ (by simp)).trans Y2.out),Hd (by rw[World.frozen?_setCell];exact y1f),Hd ?_,Hd ?_⟩
    ·have h6:=HGB.out.size
     simp at h6⊢;have:=HBW5.out.size;omega
    ·exact((HBW.out.trans ((HBW2.out).mono (by omega))).trans (HGB.out.mono (by omega))).setCell (by simp) _
   case measure=>simp[intOf];omega
  ·obtain rfl:k=t.nodes.length:=by omega
   have htk:t.nodes.take t.nodes.length=t.nodes:=List.take_length;have HTK:=Hd htk;clear htk;go_wp2
   have c2:((wr.setCell ⟨w.heap.size+1,0,none⟩ (.slice am t.nodes.length cm)).setCell ⟨w.heap.size+1,1,none⟩ (.slice a9 t.items.length c9)).cell? ⟨w.heap.size+1,0,none⟩=some (.slice am t.nodes.length cm):=by
    rw[World.cell?_setCell_other _ _ _ _ (by simp)];exact World.cell?_setCell_same _ _ _ e2
   have c3:((wr.setCell ⟨w.heap.size+1,0,none⟩ (.slice am t.nodes.length cm)).setCell ⟨w.heap.size+1,1,none⟩ (.slice a9 t.items.length c9)).cell? ⟨w.heap.size+1,1,none⟩=some (.slice a9 t.items.length c9):=
    World.cell?_setCell_same _ _ _ ((World.cell?_setCell_other _ _ _ _ (by simp)).trans e3)
   refine bodyPost_ret (v:=.agg #[.slice am t.nodes.length cm,.slice a9 t.items.length c9]) (by simp[results,results53,go_sem,loadVar,c2,c3,Result.andThen]) rfl ⟨⟨am,cm,a9,c9⟩,w9.heap.size+1,ks,rfl,by omega,?_,?_,?_,?_⟩
   ·have:=HO.out
    rw[HTK.out]at this;exact(this.setCell (p:=⟨w.heap.size+1,0,none⟩) (by simp;omega) _).setCell (by simp;omega) _
   ·have hi:Ints wr a9 c9 t.items:=Row.mono HI9.out HBW.out nlr
    exact aA (aA hi _ fun _ x e=>by have:=HIA.out x e;simp only;omega) _ fun _ x e=>by have:=HIA.out x e;simp only;omega
   ·intro x e;have:=HIA.out x e;omega
   ·exact(HW.out.setCell (by simp) _).setCell (by simp) _
def FV(n d:Int):Bool:=if n==3 then d==40||d==43||d==20||d==34 else if n==21 then d==42 else if n==24||n==32 then d==41 else n==45&&d==44
theorem FW{n d:Int}(h:aV n=true):FV n d=suits n d:=by
 unfold FV suits aV at *;simp only[Bool.or_eq_true,beq_iff_eq]at h;rcases h with(((rfl|rfl) | rfl) | rfl) | rfl<;>rfl
def Ups(t:Tr)(U:List Int):Prop:=U.length=t.nodes.length∧∀i:Nat,i<t.nodes.length→U[i]?=some (parent t i)
theorem Ups.at{t:Tr}{U:List Int}(h:Ups t U){i:Nat}(hi:i<t.nodes.length):∃h2:i<U.length,U[i]=parent t i:=
 ⟨by rw[h.1];exact hi,by have:=h.2 i hi;rw[List.getElem?_eq_getElem (by rw[h.1];exact hi)]at this;exact Option.some.inj this⟩
end
end Go.Proofs.YtokdgiphdnjeoaaGreatDoor
