/- Part of a proof. -/
import Derived.Test.YtipjhljnkocioaaGreatDoorP11
import Derived.Test.YtipjhljnkocioaaGreatDoorQI02
set_option maxRecDepth 100000
set_option maxHeartbeats 8000000
set_option linter.unusedVariables false
set_option linter.unusedSimpArgs false
open Go.Proofs.Tryz
namespace Go.Proofs.YtipjhljnkocioaaGreatDoor
section
open Go Go.RowKit
theorem MK:prog.underlying 60=some (.slice 9):=by kernel_rfl
theorem MM{l:List (List UInt8)}{k:Nat}{s:List UInt8}(h:k<l.length):hasS (l.take (k+1)) s=(hasS (l.take k) s||s==l[k]):=by
 unfold hasS;rw[List.take_succ_eq_append_getElem h];simp only[List.contains_append,List.contains_cons,List.contains_nil,Bool.or_false]
theorem MX{l:List (List UInt8)}{k:Nat}(h:k<l.length):hasS l l[k]=true:=by
 unfold hasS;simp
theorem MG(a:Option Addr)(c:Nat)(l:List (List UInt8))(s:List UInt8)(w:World)(hm:l.length≤1000000000)(h:Strs w a c l) :
 Calls prog 45 #[.slice a l.length c,strV s] w fun e w'=>e=.returned (.bool (hasS l s))∧w=w':=by
 have HR:=Hd h;clear h;go_enter func45,ntmps45;go_wp2
 go_loop [5] (fun i=>∃k:Nat,k≤l.length∧i=.int .i64 k∧Hid (hasS (l.take k) s=false)) (fun i=>l.length-(intOf i).toNat)
 case atStart=>exact⟨0,Nat.zero_le _,rfl,Hd rfl⟩
 case round=>
  obtain⟨k,hk,rfl,HA⟩:=hrel;by_cases hlt:k<l.length
  ·obtain⟨b,o,rfl,hb,hc⟩:=Strs.at HR.out hlt
   have HS:=Hd (MM (s:=s) hlt);have HT:=Hd (MX hlt)
   cases he:l[k]==s with
   | true=>
     have HE:=Hd he;go_wp2;go_ret;have:=HT.out;rw[eq_of_beq HE.out]at this;exact⟨za this.symm,rfl⟩
   | false=>
     have HE:=Hd he;go_wp2
     go_round
     case rel=>exact⟨k+1,by omega,by go_num,Hd (by rw[HS.out,HA.out,BEq.comm,HE.out];rfl)⟩
     case measure=>simp[intOf];omega
  ·go_wp2
   go_ret;refine⟨za ?_,rfl⟩;have:=HA.out;rw[List.take_of_length_le (by omega)]at this;exact this.symm
abbrev MO(W:World)(B:Nat)(a:Option Addr)(c:Nat)(l:List (List UInt8)):Prop:=W.ownsRow B 9 1 (.slice a l.length c) l.length (rI l)
theorem MS{W:World}{B:Nat}{a:Option Addr}{c:Nat}{l:List (List UInt8)}(h:MO W B a c l):Strs W a c l:=by
 obtain⟨a',c',e,hr⟩:=aQ h;simp at e;obtain⟨rfl,rfl⟩:=e;exact hr
theorem LY{W:World}{ops:Array Oper}{rest:List Oper}{o:Oper}{a:Act}{Q:Exit→Act→World→Prop}(hgd:o.guard=none)(s x:Operand)
 (ho:o.op=.call { callee:=.builtin .append,args:=#[s,x],argTypes:=#[60,60] })
 {B:Nat}{av:Option Addr}{cv:Nat}{l:List (List UInt8)}(hs:a.eval s=.slice av l.length cv)(hown:MO W B av cv l)
 {ax:Option Addr}{c:Nat}{tx:List UInt8}(hx:a.eval x=.slice ax 1 c)(hr:Row 1 W ax 1 c (rI [tx]))
 (hbytes:l.length≤1000000000)(hB:B≤W.heap.size)
 (h:∀a' c' w',MO w' B a' c' (l++[tx])→(∀B' A,B'≤B→Below B' A W→Below B' A w')→wpList prog ops Q rest (a.put o.dst (.slice a' (l++[tx]).length c')) w'):wpList prog ops Q (o::rest) a W:=by
 refine cP hgd s x 60 9 (.string ⟨#[]⟩) 1 16 ho MK LZ rfl (by decide) hs hown hx hr (MU _) (by unfold maxLen;omega) (by omega) hB ?_;intro a' c' w' h1 h2 h3;have e:l.length+1=(l++[tx]).length:=by simp
 have e2:rI l++rI [tx]=rI (l++[tx]):=by simp
 rw[e,e2]at h1;rw[e];exact h a' c' w' h1 (cR hown h2 hB)
end
end Go.Proofs.YtipjhljnkocioaaGreatDoor
