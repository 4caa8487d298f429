/- Part of a proof. -/
import Derived.Test.YtcdkdiedphhdhaaGreatDoorK14
import Derived.Test.YtcdkdiedphhdhaaGreatDoorK23
import Derived.Test.YtcdkdiedphhdhaaGreatDoorRK01
set_option maxRecDepth 100000
set_option maxHeartbeats 8000000
set_option linter.unusedVariables false
set_option linter.unusedSimpArgs false
open Go.Proofs.Tryz
namespace Go.Proofs.YtcdkdiedphhdhaaGreatDoor
section
open Go.RowKit
def renB(l:List Int)(node:Int)(i:Nat):Bool:=(i:Int)==node||l.getD i 0==node
def renK(ns:List Nd)(l:List Int)(node:Int)(name:List UInt8)(k:Nat):List Nd:=ns.mapIdx fun i d=>if decide (i<k)&&renB l node i then { d with text:=name } else d
def renT(t:Tr)(l:List Int)(node:Int)(name:List UInt8):Tr:=⟨renK t.nodes l node name t.nodes.length,t.items⟩
theorem SS(ns:List Nd)(l:List Int)(node:Int)(name:List UInt8)(k:Nat):(renK ns l node name k).length=ns.length:=by simp[renK]
theorem TC(ns:List Nd)(l:List Int)(node:Int)(name:List UInt8)(k:Nat){i:Nat}(h:i<ns.length):(renK ns l node name k)[i]'(by rw[SS];exact h)=if decide (i<k)&&renB l node i then { ns[i]with text:=name } else ns[i]:=by simp[renK]
theorem SR(t:Tr)(l:List Int)(node:Int)(name:List UInt8):(renT t l node name).nodes.length=t.nodes.length:=SS _ _ _ _ _
theorem WP{t:Tr}{l:List Int}{node:Int}{name:List UInt8}(bd:Bd t)(hn:name.length<=1000000000):Bd (renT t l node name):=by
 refine⟨by rw[SR];exact bd.n,bd.i,fun d hd=>?_,fun d hd=>?_⟩
 .obtain⟨i,hi,rfl⟩:=List.getElem_of_mem hd
  have ha:i<t.nodes.length:=by rw[SR]at hi;exact hi
  have hb:=bd.k _ (List.getElem_mem ha);simp only[renT];rw[TC _ _ _ _ _ ha];split
  .exact hb
  exact hb
 obtain⟨i,hi,rfl⟩:=List.getElem_of_mem hd
 have ha:i<t.nodes.length:=by rw[SR]at hi;exact hi
 have hb:=bd.s _ (List.getElem_mem ha);simp only[renT];rw[TC _ _ _ _ _ ha];split
 .exact hn
 exact hb
def SY(t:Tr)(l:List Int)(node:Int)(name:List UInt8):Option Tr:=
 if (zb (renT t l node name)).2.2 != 0 || !((zb (renT t l node name)).1==l)then none else some (renT t l node name)
theorem TZ:∀(ns:List Nd) (ks:List (Option Addr×Nat)) (k:Nat) (hk:k<ns.length) (name:List UInt8),ks.length=ns.length->zN (ns.set k { ns[k]with text:=name }) ks=(zN ns ks).set (k*5+1) (strV name)
 |d::ns,a::ks,0,_,name,_=>by simp[zN,Nd.cells]
 | d::ns,a::ks,k+1,hk,name,h=>by
   simp only[List.set_cons_succ,zN,List.getElem_cons_succ];rw[TZ ns ks k (by simpa using hk) name (by simpa using h)];have e:(k+1)*5+1=(d.cells a).length+(k*5+1):=by simp[Nd.cells];omega
   rw[e,List.set_append_right _ _ (by omega)];simp
 | [],_,_,hk,_,_=>by simp at hk
 |_::_,[],_,_,_,h=>by simp at h
theorem OwnN.setText{w:World}{B nb c:Nat}{ns:List Nd}{ks:List (Option Addr×Nat)}(h:OwnN w B (some ⟨nb,0,none⟩) c ns ks){k:Nat}(hk:k<ns.length)(name:List UInt8) :
 OwnN (w.setCell ⟨nb,k*5+1,none⟩ (strV name)) B (some ⟨nb,0,none⟩) c (ns.set k { ns[k]with text:=name }) ks:=by
 refine⟨by simp[h.len],?_,fun i hi hik=>?_⟩
 .have:=(h.own.stored (k*5+1) (strV name)).1
  rw[<-TZ ns ks k hk name h.len]at this;simpa using this
 have hb:i<ns.length:=by simpa using hi
 have ha:=h.kids i hb hik
 have e:(ns.set k { ns[k]with text:=name })[i].kids=ns[i].kids:=by
  rw[List.getElem_set];split
  .rename_i e;subst e;rfl
  rfl
 rw[e];exact⟨bA ha.1 _ fun h0 x ex=>(ha.2 h0 x ex).2 ⟨nb,0,none⟩ rfl,ha.2⟩
abbrev boxW(w:World)(a:Option Addr)(n c:Nat)(a2:Option Addr)(m c2:Nat):World:=w.alloc (.cells #[.slice a n c,.slice a2 m c2] 25)
theorem UT(W:World)(a:Option Addr)(n c:Nat)(a2:Option Addr)(m c2:Nat){k:Nat}(hk:W.heap.size=k) :
 (boxW W a n c a2 m c2).cell? ⟨k,0,none⟩=some (.slice a n c)/\(boxW W a n c a2 m c2).cell? ⟨k,1,none⟩=some (.slice a2 m c2)/\∀j,(boxW W a n c a2 m c2).frozen? ⟨k,j,none⟩=false:=by
 subst hk;exact⟨by simp,by simp,by simp⟩
theorem VH(p:ProgV)(t:Tr)(ups decl:List Int)(i b1 b2:Nat)(d:Int)(w:World)(bd:Bd t)(hi:i<t.nodes.length)(h:IsProg w p t ups decl)
 (h1:w.cell? ⟨b1,0,none⟩=some p.ptr)(h2:w.cell? ⟨b2,0,none⟩=some (intV d)) :
 Calls prog 53 #[intV i,.pointer (some ⟨b1,0,none⟩),.pointer (some ⟨b2,0,none⟩)] w (zD w (decl[i]?==some d)):=by
 have ha:prog.follows .mixedOrders=true:=by kernel_rfl
 have he:=bd.n;have hl:=h.declLen;obtain⟨c0,c1,c2,c3,-,-,hd⟩:=id h;have hr:Ints w p.da p.dc decl:=by rw[<-hl]at hd;exact hd
 obtain⟨b,o,e,hb,hc⟩:=Ints.at hr (i:=i) (by omega);obtain⟨s,v,aa,ac,da,dc⟩:=p;simp only at c0 c1 c2 c3 e h1;subst e;obtain⟨x,hx⟩:∃x,decl[i]=x:=⟨_,rfl⟩
 rw[hx]at hc;have hp:(decl[i]?==some d)=(x==d):=by rw[List.getElem?_eq_getElem (by omega),hx];rfl
 have HP:=Hd hp;clear h hd hr hx hp bd;go_enter func53,ntmps53;go_wp2
 go_quiet (fail)
 go_wp2;go_ret;exact⟨zc (by rw[HP.o]),below_drewN brf _⟩
theorem UN(p:ProgV)(t:Tr)(ups decl:List Int)(q:Nat->Bool)(b1 b2:Nat)( w:World)(bd:Bd t)(h:IsProg w p t ups decl)
 (hq:∀(k:Nat) W,k<t.nodes.length->Below w.heap.size w W->Calls prog 53 #[intV k,.pointer (some ⟨b1,0,none⟩),.pointer (some ⟨b2,0,none⟩)] W (zD W (q k))) :
 Calls prog 52 #[p.ptr,.func (.func 53) #[] #[.pointer (some ⟨b1,0,none⟩),.pointer (some ⟨b2,0,none⟩)]] w (RetInts w (idxs q t.nodes.length)):=by
 have he:=bd.n;have HQ:=Hd hq;obtain⟨c0,c1,c2,c3,-,-,-⟩:=id h;obtain⟨s,v,aa,ac,da,dc⟩:=p;simp only at c0 c1 c2 c3;clear h hq bd;go_enter func52,ntmps52;go_wp2
 go_loopw [4,12] (fun t4 t12 wr=>∃(k:Nat) (a4:Option Addr) (c4:Nat),t12=.int .i64 k/\k<=t.nodes.length/\t4=.slice a4 (idxs q k).length c4/\Hid (OwnI wr w.heap.size a4 c4 (idxs q k))/\Hid (Below w.heap.size w wr)) (fun _ i _=>t.nodes.length-(intOf i).toNat)
 case atStart=>exact⟨0,none,0,rfl,Nat.zero_le _,rfl,Hd ⟨rfl,.inl ⟨rfl,rfl⟩⟩,Hd brf⟩
 case round=>
  obtain⟨k,a4,c4,rfl,hk,rfl,HO,HB⟩:=hrel;have hs:=HB.o.size;by_cases hlt:k<t.nodes.length
  .have HC:=Hd (HQ.o k wr hlt HB.o)
   have hd:=TD q k
   cases hqk:q k with
   | true=>
     have HS:=Hd (TK hqk);have HK:=Hd hqk;clear hqk
     go_wp2_with (first
      | (go_at_call 53;refine HC.o.mono ?_;rw[HK.o];rintro e w1 ⟨rfl,ha⟩;have Ha:=Hd ha;clear ha)
      | (at_builtin;refine iJ (news:=[(k:Int)]) rfl (.tmp 18) (.tmp 20) rfl rfl ((zL HO.o Ha.o).alloc _) rfl (cN _ _ _) (by omega) (by have:=Ha.o.size;simp;omega) ?_;intro a' c' w' l' HL hle hc hb))
     go_roundw
     case rel=>exact⟨k+1,a',c',by go_num,by omega,by rw[HS.o,<-HL.o],by rw[HS.o,<-HL.o];exact Hd hc,Hd (hb _ _ nlr ((HB.o.trans (Ha.o.mono hs)).alloc (by have:=Ha.o.size;omega) _))⟩
     case measure=>simp[intOf];omega
   | false=>
     have HS:=Hd (UR hqk);have HK:=Hd hqk;clear hqk
     go_wp2_with (go_at_call 53;refine HC.o.mono ?_;rw[HK.o];rintro e w1 ⟨rfl,ha⟩;have Ha:=Hd ha;clear ha)
     go_roundw
     case rel=>exact⟨k+1,a4,c4,by go_num,by omega,by rw[HS.o],by rw[HS.o];exact Hd (zL HO.o Ha.o),Hd (HB.o.trans (Ha.o.mono hs))⟩
     case measure=>simp[intOf];omega
  obtain rfl:k=t.nodes.length:=by omega
  go_wp2;go_ret;exact⟨a4,c4,rfl,HO.o,HB.o⟩
theorem UG(p:ProgV)(t:Tr)(ups decl:List Int)(d:Int)(w:World)(bd:Bd t)(h:IsProg w p t ups decl) :
 Calls prog 34 #[p.ptr,intV d] w (RetInts w (uses decl d)):=by
 have hl:=h.declLen;have hu:uses decl d=idxs (fun i=>decl[i]?==some d) t.nodes.length:=by rw[uses,hl]
 have HW:∀W,W=(w.alloc (.cells #[p.ptr] 82)).alloc (.cells #[intV d] 3)->Calls prog 52 #[p.ptr,.func (.func 53) #[] #[.pointer (some ⟨w.heap.size,0,none⟩),.pointer (some ⟨w.heap.size+1,0,none⟩)]] W (RetInts W (uses decl d)):=by
  rintro W rfl;rw[hu];have hb:Below w.heap.size w ((w.alloc (.cells #[p.ptr] 82)).alloc (.cells #[intV d] 3)):=(brf.alloc nlr _).alloc (by simp) _;have hp:=h.mono hb nlr;refine UN p t ups decl _ _ _ _ bd hp fun k W hk hbW=>?_;refine VH p t ups decl k _ _ d W bd hk (hp.mono hbW nlr) ?_ ?_
  .exact(hbW.cell (p:=⟨w.heap.size,0,none⟩) (by simp;omega)).trans (by simp)
  exact(hbW.cell (p:=⟨w.heap.size+1,0,none⟩) (by simp)).trans (by simp)
 have Hc:=Hd (HW _ rfl);clear h HW hu hl bd;obtain⟨s,v,aa,ac,da,dc⟩:=p;go_enter func34,ntmps34
 go_wp2_with (go_at_call 52;go_loud (refine Hc.o.mono ?_;rintro e w1 ⟨a1,c1,rfl,ha,hc⟩;have Ha:=Hd hc;have Hb:=Hd ha;clear hc ha))
 go_ret;exact⟨a1,c1,rfl,cA Hb.o (by simp;omega),(brf.alloc nlr _).alloc (by simp) _ |>.trans (Ha.o.mono (by simp;omega))⟩
end
end Go.Proofs.YtcdkdiedphhdhaaGreatDoor
