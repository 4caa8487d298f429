/- Part of a proof. -/
import Derived.Test.YtipjhljnkocioaaGreatDoorP28
set_option maxRecDepth 100000
set_option maxHeartbeats 8000000
set_option linter.unusedVariables false
set_option linter.unusedSimpArgs false
open Go.Proofs.Tryz
namespace Go.Proofs.YtipjhljnkocioaaGreatDoor
section
open Go Go.RowKit Go.Maps
def tabD(l:List (List UInt8×DataW Unit))(D:DataW Unit):DataW Unit:=l.foldl (fun D p=>D.put (.string p.1) p.2) D
theorem DO:∀(l:List (List UInt8×DataW Unit)) (D:DataW Unit),IsMap D→(l.map Prod.fst).Nodup→∀(x:List UInt8) (z:DataW Unit),
 (tabD l D).atKey (.string x) z=match l.find? (fun p=>p.1==x)with
  |some p=>p.2
  |none=>D.atKey (.string x) z
 | [],D,hD,hn,x,z=>rfl
 | p::l,D,hD,hn,x,z=>by
   obtain⟨h1,h2⟩:=List.nodup_cons.1 hn;have ih:=DO l (D.put (.string p.1) p.2) (aY hD _ _) h2 x z;have e:tabD (p::l) D=tabD l (D.put (.string p.1) p.2):=rfl;rw[e,ih,List.find?_cons];by_cases hx:p.1=x
   ·rw[show(p.1==x)=true by rw[hx];simp]
    have hf:l.find? (fun q=>q.1==x)=none:=by
     rw[List.find?_eq_none];intro q hq e2;exact h1 (List.mem_map.2 ⟨q,hq,(eq_of_beq e2).trans hx.symm⟩)
    rw[hf];simp only;rw[eU hD,if_pos hx.symm]
   ·rw[show(p.1==x)=false by simpa using hx]
    cases hf:l.find? (fun q=>q.1==x)with
    |some q=>rfl
    | none=>
      simp only;rw[eU hD,if_neg (fun e=>hx e.symm)]
theorem DP:∀(l:List (List UInt8×DataW Unit)) (D:DataW Unit),IsMap D→∀(x:List UInt8),Maps.has (tabD l D) (.string x)=((l.any fun p=>p.1==x)||Maps.has D (.string x))
 | [],D,hD,x=>by simp[tabD]
 | p::l,D,hD,x=>by
   have e:tabD (p::l) D=tabD l (D.put (.string p.1) p.2):=rfl;rw[e,DP l _ (aY hD _ _) x,List.any_cons];by_cases hx:p.1=x
   ·subst hx
    rw[has_put_same hD (show WideAt.IsKeyLit (.string p.1)from trivial)];simp
   ·rw[has_put_other (by intro e;injection e with e;exact hx e.symm),show(p.1==x)=false by simpa using hx]
    simp
def queryT:List (List UInt8×DataW Unit):=[([109,117,115,116],.lit (.int .i64 1)),([109,97,121],.lit (.int .i64 2)),([99,111,117,110,116],.lit (.int .i64 3)),([98,111,117,110,100,115],.lit (.int .i64 4)),([118,97,108,117,101,115],.lit (.int .i64 5)),([119,104,121],.lit (.int .i64 6)),([98,108,97,109,101],.lit (.int .i64 7)),([108,111,111,107],.lit (.int .i64 8))]
def oC(x:List UInt8):Nat:=if x=[99,104,111,111,115,101]then 213 else if x=[116,121,112,101]then 214 else if x=[102,117,110]then 215 else if x=[108,101,116]then 216 else if x=[111,98,115,101,114,118,101]then 217 else if x=[114,101,116,114,97,99,116]then 218 else if x=[97,115,107]then 219 else 0
def itemT:List (List UInt8×DataW Unit):=[([99,104,111,111,115,101],.ptr (.lit (.int .i64 (213:Nat)))),([116,121,112,101],.ptr (.lit (.int .i64 (214:Nat)))),([102,117,110],.ptr (.lit (.int .i64 (215:Nat)))),([108,101,116],.ptr (.lit (.int .i64 (216:Nat)))),([111,98,115,101,114,118,101],.ptr (.lit (.int .i64 (217:Nat)))),([114,101,116,114,97,99,116],.ptr (.lit (.int .i64 (218:Nat)))),([97,115,107],.ptr (.lit (.int .i64 (219:Nat))))]
theorem GK(x:List UInt8):(tabD queryT (.map [])).atKey (.string x) (.lit (.int .i64 0))=.lit (.int .i64 (fP x)):=by
 rw[DO _ _ ⟨_,rfl⟩ (by decide)];unfold fP;by_cases h0:x=[109,117,115,116]
 ·subst h0;rfl
 by_cases h1:x=[109,97,121]
 ·subst h1;rfl
 by_cases h2:x=[99,111,117,110,116]
 ·subst h2;rfl
 by_cases h3:x=[98,111,117,110,100,115]
 ·subst h3;rfl
 by_cases h4:x=[118,97,108,117,101,115]
 ·subst h4;rfl
 by_cases h5:x=[119,104,121]
 ·subst h5;rfl
 by_cases h6:x=[98,108,97,109,101]
 ·subst h6;rfl
 by_cases h7:x=[108,111,111,107]
 ·subst h7;rfl
 simp only[h0,h1,h2,h3,h4,h5,h6,h7,if_false]
 have hf:queryT.find? (fun p=>p.1==x)=none:=by
  rw[List.find?_eq_none];intro p hp;simp only[queryT,List.mem_cons,List.not_mem_nil,or_false]at hp;rcases hp with rfl|rfl|rfl|rfl|rfl|rfl|rfl|rfl
  all_goals (intro e;have e2:=(eq_of_beq e).symm;contradiction)
 rw[hf];rfl
def dZ(x:List UInt8):Bool:=itemT.any fun p=>p.1==x
theorem wP(x:List UInt8):Maps.has (tabD itemT (.map [])) (.string x)=dZ x:=by
 rw[DP _ _ ⟨_,rfl⟩];unfold dZ;simp[Maps.has]
theorem JG{x:List UInt8}(h:dZ x=true):(tabD itemT (.map [])).atKey (.string x) .nil=.ptr (.lit (.int .i64 (oC x))):=by
 rw[DO _ _ ⟨_,rfl⟩ (by decide)];unfold oC;by_cases h0:x=[99,104,111,111,115,101]
 ·subst h0;rfl
 by_cases h1:x=[116,121,112,101]
 ·subst h1;rfl
 by_cases h2:x=[102,117,110]
 ·subst h2;rfl
 by_cases h3:x=[108,101,116]
 ·subst h3;rfl
 by_cases h4:x=[111,98,115,101,114,118,101]
 ·subst h4;rfl
 by_cases h5:x=[114,101,116,114,97,99,116]
 ·subst h5;rfl
 by_cases h6:x=[97,115,107]
 ·subst h6;rfl
 exfalso;unfold dZ at h;rw[List.any_eq_true]at h;obtain⟨p,hp,e⟩:=h;simp only[itemT,List.mem_cons,List.not_mem_nil,or_false]at hp;rcases hp with rfl|rfl|rfl|rfl|rfl|rfl|rfl
 all_goals (have e2:=(eq_of_beq e).symm;contradiction)
theorem iB:prog.underlying 184=some (.map 9 188):=by kernel_rfl
theorem ED(w:World):(zeroValue 188).run prog w=.ok .nilFunc w:=by kernel_rfl
theorem sY{X:World}{b n:Nat}(h:OwnS X b n (tabD itemT (.map []))){s:List UInt8}(hs:s.length≤1000000)(hh:dZ s=true) :
 (Instr.lookup 184 (.map (some b)) (strV s) true).run prog X=.ok (.tuple #[.func (.func (oC s)) #[] #[],.bool true]) X:=by
 obtain⟨v,ps,hrun,hv⟩:=h.look_ok zF iB (ED X) (zd:=.nil) (zp:=[]) rfl (zU hs);rw[JG hh]at hv;rw[hrun,KS hv,wP,hh]
theorem CH{X:World}{b n:Nat}(h:OwnS X b n (tabD itemT (.map []))){s:List UInt8}(hs:s.length≤1000000)(hh:dZ s=false) :
 ∃v,(Instr.lookup 184 (.map (some b)) (strV s) true).run prog X=.ok (.tuple #[v,.bool false]) X:=by
 obtain⟨v,ps,hrun,hv⟩:=h.look_ok zF iB (ED X) (zd:=.nil) (zp:=[]) rfl (zU hs);exact⟨v,by rw[hrun,wP,hh]⟩
theorem kH{c:PC}{s:PS}{F:List (Nat×Obj)}{d:Nat}{X:World}(h:PQ c s F d X){z:Nat}(hz:X.heap.size=z) :
 Calls prog 232 #[] X fun e Y=>e=.returned (.map (some z))∧∃o,PQ c s ((z,o)::F) d Y∧∀Z:World,Z.heap[z]?=some o→∀x:List UInt8,x.length≤1000000→(Instr.lookup 213 (.map (some z)) (strV x) false).run prog Z=.ok (intV (fP x)) Z:=by
 subst hz;have HP:=Hd h;have hmm:=@run_makeMap prog;have HOW:=Hd (show OwnS (X.alloc (.map #[] 0)) X.heap.size 0 (.map [])from World.ownsMap_made X _ _ _);have HG:Hid ((X.alloc (.map #[] 0)).grownBy (X.alloc (.map #[] 0)) (some X.heap.size)):=Hd ⟨rfl,rfl,rfl,nlr,fun _ _ _=>rfl⟩;clear h;go_enter func232,ntmps232
 go_wp2_with (first
  | (refine zg _ rfl _ _ _ 213 rfl 9 3 zF iA rdV X.heap.size 7 _ rfl HOW7.out (by decide) _ _ (.string [108,111,111,107]) rfl rfl (zU (s:=[108,111,111,107]) (by decide)) (.lit (.int .i64 8)) [] rfl ?_;intro w8 ho8 hg8;have HOW8:=Hd ho8;have HG8:=Hd (zt HG7.out hg8);clear ho8 hg8)
  | (refine zg _ rfl _ _ _ 213 rfl 9 3 zF iA rdV X.heap.size 6 _ rfl HOW6.out (by decide) _ _ (.string [98,108,97,109,101]) rfl rfl (zU (s:=[98,108,97,109,101]) (by decide)) (.lit (.int .i64 7)) [] rfl ?_;intro w7 ho7 hg7;have HOW7:=Hd ho7;have HG7:=Hd (zt HG6.out hg7);clear ho7 hg7)
  | (refine zg _ rfl _ _ _ 213 rfl 9 3 zF iA rdV X.heap.size 5 _ rfl HOW5.out (by decide) _ _ (.string [119,104,121]) rfl rfl (zU (s:=[119,104,121]) (by decide)) (.lit (.int .i64 6)) [] rfl ?_;intro w6 ho6 hg6;have HOW6:=Hd ho6;have HG6:=Hd (zt HG5.out hg6);clear ho6 hg6)
  | (refine zg _ rfl _ _ _ 213 rfl 9 3 zF iA rdV X.heap.size 4 _ rfl HOW4.out (by decide) _ _ (.string [118,97,108,117,101,115]) rfl rfl (zU (s:=[118,97,108,117,101,115]) (by decide)) (.lit (.int .i64 5)) [] rfl ?_;intro w5 ho5 hg5;have HOW5:=Hd ho5;have HG5:=Hd (zt HG4.out hg5);clear ho5 hg5)
  | (refine zg _ rfl _ _ _ 213 rfl 9 3 zF iA rdV X.heap.size 3 _ rfl HOW3.out (by decide) _ _ (.string [98,111,117,110,100,115]) rfl rfl (zU (s:=[98,111,117,110,100,115]) (by decide)) (.lit (.int .i64 4)) [] rfl ?_;intro w4 ho4 hg4;have HOW4:=Hd ho4;have HG4:=Hd (zt HG3.out hg4);clear ho4 hg4)
  | (refine zg _ rfl _ _ _ 213 rfl 9 3 zF iA rdV X.heap.size 2 _ rfl HOW2.out (by decide) _ _ (.string [99,111,117,110,116]) rfl rfl (zU (s:=[99,111,117,110,116]) (by decide)) (.lit (.int .i64 3)) [] rfl ?_;intro w3 ho3 hg3;have HOW3:=Hd ho3;have HG3:=Hd (zt HG2.out hg3);clear ho3 hg3)
  | (refine zg _ rfl _ _ _ 213 rfl 9 3 zF iA rdV X.heap.size 1 _ rfl HOW1.out (by decide) _ _ (.string [109,97,121]) rfl rfl (zU (s:=[109,97,121]) (by decide)) (.lit (.int .i64 2)) [] rfl ?_;intro w2 ho2 hg2;have HOW2:=Hd ho2;have HG2:=Hd (zt HG1.out hg2);clear ho2 hg2)
  | (refine zg _ rfl _ _ _ 213 rfl 9 3 zF iA rdV X.heap.size 0 _ rfl HOW.out (by decide) _ _ (.string [109,117,115,116]) rfl rfl (zU (s:=[109,117,115,116]) (by decide)) (.lit (.int .i64 1)) [] rfl ?_;intro w1 ho1 hg1;have HOW1:=Hd ho1;have HG1:=Hd (zt HG.out hg1);clear ho1 hg1))
 go_ret;obtain⟨o,hp,hall⟩:=HP.out.map HG8.out HOW8.out;exact⟨rfl,o,hp,fun Z hZ x hx=>GE (hall Z hZ) hx (GK x)⟩
theorem IN{c:PC}{s:PS}{F:List (Nat×Obj)}{d:Nat}{X:World}(h:PQ c s F d X){z:Nat}(hz:X.heap.size=z) :
 Calls prog 200 #[] X fun e Y=>e=.returned (.map (some z))∧∃o,PQ c s ((z,o)::F) d Y∧∀Z:World,Z.heap[z]?=some o→OwnS Z z 7 (tabD itemT (.map [])):=by
 subst hz;have HP:=Hd h;have hmm:=@run_makeMap prog;have HOW:=Hd (show OwnS (X.alloc (.map #[] 0)) X.heap.size 0 (.map [])from World.ownsMap_made X _ _ _);have HG:Hid ((X.alloc (.map #[] 0)).grownBy (X.alloc (.map #[] 0)) (some X.heap.size)):=Hd ⟨rfl,rfl,rfl,nlr,fun _ _ _=>rfl⟩;clear h;go_enter func200,ntmps200
 go_wp2_with (first
  | (refine zg _ rfl _ _ _ 184 rfl 9 188 zF iB rdV X.heap.size 6 _ rfl HOW6.out (by decide) _ _ (.string [97,115,107]) rfl rfl (zU (s:=[97,115,107]) (by decide)) (.ptr (.lit (.int .i64 (219:Nat)))) [] rfl ?_;intro w7 ho7 hg7;have HOW7:=Hd ho7;have HG7:=Hd (zt HG6.out hg7);clear ho7 hg7)
  | (refine zg _ rfl _ _ _ 184 rfl 9 188 zF iB rdV X.heap.size 5 _ rfl HOW5.out (by decide) _ _ (.string [114,101,116,114,97,99,116]) rfl rfl (zU (s:=[114,101,116,114,97,99,116]) (by decide)) (.ptr (.lit (.int .i64 (218:Nat)))) [] rfl ?_;intro w6 ho6 hg6;have HOW6:=Hd ho6;have HG6:=Hd (zt HG5.out hg6);clear ho6 hg6)
  | (refine zg _ rfl _ _ _ 184 rfl 9 188 zF iB rdV X.heap.size 4 _ rfl HOW4.out (by decide) _ _ (.string [111,98,115,101,114,118,101]) rfl rfl (zU (s:=[111,98,115,101,114,118,101]) (by decide)) (.ptr (.lit (.int .i64 (217:Nat)))) [] rfl ?_;intro w5 ho5 hg5;have HOW5:=Hd ho5;have HG5:=Hd (zt HG4.out hg5);clear ho5 hg5)
  | (refine zg _ rfl _ _ _ 184 rfl 9 188 zF iB rdV X.heap.size 3 _ rfl HOW3.out (by decide) _ _ (.string [108,101,116]) rfl rfl (zU (s:=[108,101,116]) (by decide)) (.ptr (.lit (.int .i64 (216:Nat)))) [] rfl ?_;intro w4 ho4 hg4;have HOW4:=Hd ho4;have HG4:=Hd (zt HG3.out hg4);clear ho4 hg4)
  | (refine zg _ rfl _ _ _ 184 rfl 9 188 zF iB rdV X.heap.size 2 _ rfl HOW2.out (by decide) _ _ (.string [102,117,110]) rfl rfl (zU (s:=[102,117,110]) (by decide)) (.ptr (.lit (.int .i64 (215:Nat)))) [] rfl ?_;intro w3 ho3 hg3;have HOW3:=Hd ho3;have HG3:=Hd (zt HG2.out hg3);clear ho3 hg3)
  | (refine zg _ rfl _ _ _ 184 rfl 9 188 zF iB rdV X.heap.size 1 _ rfl HOW1.out (by decide) _ _ (.string [116,121,112,101]) rfl rfl (zU (s:=[116,121,112,101]) (by decide)) (.ptr (.lit (.int .i64 (214:Nat)))) [] rfl ?_;intro w2 ho2 hg2;have HOW2:=Hd ho2;have HG2:=Hd (zt HG1.out hg2);clear ho2 hg2)
  | (refine zg _ rfl _ _ _ 184 rfl 9 188 zF iB rdV X.heap.size 0 _ rfl HOW.out (by decide) _ _ (.string [99,104,111,111,115,101]) rfl rfl (zU (s:=[99,104,111,111,115,101]) (by decide)) (.ptr (.lit (.int .i64 (213:Nat)))) [] rfl ?_;intro w1 ho1 hg1;have HOW1:=Hd ho1;have HG1:=Hd (zt HG.out hg1);clear ho1 hg1))
 go_ret;obtain⟨o,hp,hall⟩:=HP.out.map HG7.out HOW7.out;exact⟨rfl,o,hp,fun Z hZ=>hall Z hZ⟩
end
end Go.Proofs.YtipjhljnkocioaaGreatDoor
